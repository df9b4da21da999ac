/- droverlaw13.step at 'do' 5, behind the page's answer. -/
import Derived.Test.YtgfakefcmbpboaaGreatSuWgo
import Derived.Test.YtgfakefcmbpboaaGreatSuWgp
import Derived.Test.YtgfakefcmbpboaaGreatSuWgk
namespace Go.Proofs.YtgfakefcmbpboaaGreat
set_option linter.all false
set_option maxRecDepth 100000
open Go.RowKit

def cThn : Code → Code
 | .cond _ c _ => c
 | c => c
def cEls : Code → Code
 | .cond _ _ c => c
 | c => c
def cBlk : Code → Code
 | .block _ c => c
 | c => c
noncomputable def do5Code : Code := cAfter 2 (cThn (cSnd (cEls (cSnd (cEls (cSnd (cBlk (cSnd (cFst (cAfter 7 (Tryz.f21.body.getD .skip)))))))))))
noncomputable def stepEnd8 : Code := cAfter 8 (Tryz.f21.body.getD .skip)
theorem RowP.tk {T : TypeId} {w w' : World} {p : Nat → Prop} {k : Nat} {t : TypeId} {s : SlP} (h : RowP w p t k s) (hk : TKeep T w w') (hne : t ≠ T) : RowP w' p t k s := by
 rcases h with h | ⟨g, cur, e, hb, hg, h1, h2, h3⟩
 ·exact .inl h
 ·exact .inr ⟨g, cur, e, hb, hk g cur t hne hg, h1, h2, h3⟩
theorem RowsP.tk {w w' : World} {p : Nat → Prop} {P : MsgP} (h : RowsP w p P) (hk : TKeep 27 w w') : RowsP w' p P := ⟨h.b.tk hk (by decide), h.bn, h.h1.tk hk (by decide), h.h1n, h.h2.tk hk (by decide), h.h2n, h.c1.tk hk (by decide), h.c1n, h.c2.tk hk (by decide), h.c2n, h.c3.tk hk (by decide), h.c3n, h.ds.tk hk (by decide), h.dsn⟩
theorem RowM.keep {S : TypeId → Prop} {w w' : World} {B : Nat} {s : SlP} (h : RowM w B s) (hk : KeepS S w w') (hS : ¬ S 49) : RowM w' B s := by
 rcases h with h | ⟨g, cur, e, hb, hg, h1, h2, h3, h4⟩
 ·exact .inl h
 ·obtain ⟨c', k1, k2, k3⟩ := hk g cur _ hg
  exact .inr ⟨g, c', e, hb, k1, h1, h2, by omega, fun j hj => (h4 j hj).keep hk hg hS⟩
theorem setCells_size : ∀ (vs : List Value) (g o : Nat) (w : World), (w.setCells g o vs).heap.size = w.heap.size
 | [], _, _, _ => rfl
 | v :: r, g, o, w => by rw [World.setCells, setCells_size r g (o + 1) _]; simp [World.setCell]
theorem own_prot {p : Nat → Prop} {w w' : World} {B k n : Nat} {t : TypeId} {v : Value} {xs : List Value} (h : w.ownsRow B t k v n xs) (hk : Prot p w w') (hp : ∀ q, B ≤ q → q < w.heap.size → p q) : w'.ownsRow B t k v n xs := own_of_heap h fun q hq => hk.block q (own_lt h q hq).2 (hp q (own_lt h q hq).1 (own_lt h q hq).2)
theorem OwnHs.prot {p : Nat → Prop} {w w' : World} {B : Nat} {v : Value} {l : List HeldD} (h : OwnHs w B v l) (hk : Prot p w w') (hp : ∀ q, B ≤ q → q < w.heap.size → p q) : OwnHs w' B v l := by
 obtain ⟨ps, h1, h2, h3⟩ := h
 exact ⟨ps, own_prot h1 hk hp, h2, fun j hj => own_prot (h3 j hj) hk hp⟩
theorem OwnWs.prot {p : Nat → Prop} {w w' : World} {B : Nat} {v : Value} {l : List WaitD} (h : OwnWs w B v l) (hk : Prot p w w') (hp : ∀ q, B ≤ q → q < w.heap.size → p q) : OwnWs w' B v l := by
 obtain ⟨ps, h1, h2, h3⟩ := h
 exact ⟨ps, own_prot h1 hk hp, h2, fun j hj => own_prot (h3 j hj) hk hp⟩
theorem WorkO.prot {p : Nat → Prop} {w w' : World} {B : Nat} {P : WorkP} {D : WorkD} (h : WorkO w B P D) (hk : Prot p w w') (hp : ∀ q, B ≤ q → q < w.heap.size → p q) : WorkO w' B P D := ⟨own_prot h.op hk hp, h.wa.prot hk hp, h.he.prot hk hp, own_prot h.re hk hp⟩
theorem OwnM.prot {p : Nat → Prop} {w w' : World} {B : Nat} {P M} (h : OwnM w B P M) (hk : Prot p w w') (hp : ∀ q, B ≤ q → q < w.heap.size → p q) : OwnM w' B P M :=
 ⟨own_prot h.b hk hp, own_prot h.h1 hk hp, own_prot h.h2 hk hp, own_prot h.c1 hk hp, own_prot h.c2 hk hp, own_prot h.c3 hk hp, own_prot h.ds hk hp⟩
theorem OwnMs.prot {p : Nat → Prop} {w w' : World} {B : Nat} {v : Value} {l : List MsgD} (h : OwnMs w B v l) (hk : Prot p w w') (hp : ∀ q, B ≤ q → q < w.heap.size → p q) : OwnMs w' B v l := by
 obtain ⟨ps, h1, h2, h3⟩ := h
 exact ⟨ps, own_prot h1 hk hp, h2, fun j hj => OwnM.prot (h3 j hj) hk hp⟩
theorem Blk.prot {p : Nat → Prop} {w w' : World} {g : Nat} {t : TypeId} {cs : List Value} (h : Blk w g t cs) (hk : Prot p w w') (hp : p g) : Blk w' g t cs := h.of_heap (hk.block g h.lt hp)
theorem Prot.below {p : Nat → Prop} {w w' : World} {n : Nat} (h : Prot p w w') (hn : n ≤ w.heap.size) (hp : ∀ k, k < n → p k) : Below n w w' := ⟨h.os, h.tape, h.output, h.size, fun k hk => h.block k (by omega) (hp k hk)⟩

set_option maxHeartbeats 8000000 in
theorem do5_0 {K34 K51 : Act → World → Prop} (w V : World) (gw gr gi gs gx gmm : Nat) (Pw Pi Pq : WorkP) (D D' : WorkD) (L' : List MsgD) (us : List MsgP) (Qm : MsgP) (M : MsgD) (uA : Option Addr) (un uc : Nat) {u0 u1 u3 u5 u7 u11 u12 u13 u14 u15 u16 u18 u19 u20 u21 u22 u23 u24 u25 u26 u27 u28 u29 u30 u31 u32 u33 u34 u35 u36 u37 u38 u39 u40 u41 u42 u43 u44 u45 u46 u47 u48 u49 u50 u51 u52 u53 u54 u55 u56 u57 u58 u59 u60 u61 u62 u63 u64 u65 u66 u67 u68 u69 u70 u71 u72 u73 u74 u75 u76 u77 u78 u79 u80 u81 u82 u83 u84 u85 u86 u87 u88 u89 u90 u91 u92 u93 u94 u95 u96 u97 u98 u99 u100 u101 u102 u103 u104 u105 u106 u107 u108 u109 u110 u111 u112 u113 u114 u115 u116 u117 u118 u119 u120 u121 u122 u123 u124 u125 u126 u127 u128 u129 u130 u131 u132 u133 u134 u135 u136 u137 u138 u139 u140 u141 u142 u143 u144 u145 u146 u147 u148 u149 u150 u151 u152 u153 u154 u155 u156 u157 u158 u159 u160 u161 u162 u163 u164 u165 u166 u167 u168 u169 u170 u171 u172 u173 u174 u175 u176 u177 u178 u179 u180 u181 u182 u183 u184 u185 u186 u187 u188 u189 u190 u191 u192 u193 u194 u195 u196 u197 u198 u199 u200 u201 u202 u203 u204 u205 u206 u207 u208 u209 u210 u211 u212 u213 u214 u215 u216 u217 u218 u219 u220 u221 u222 u223 u224 u225 u226 u227 u228 u229 u230 u231 u232 u233 u234 u235 u236 u237 u238 u239 u240 u241 u242 u243 u244 u245 u246 u247 u248 u249 : Value}
  (hK34 : ∀ a' w', Code.wp Tryz.prog (cSnd do5Code) (Exit.inBlock 0 (Exit.then K51 (bodyPost Tryz.prog Tryz.f21 (fun e w' => ∃ P' D2, e = .returned (.tuple #[P'.val D2, .bool true]) ∧ WorkR w' P' D2 ∧ Below w.heap.size w w')))) a' w' → K34 a' w') (hK51 : ∀ a' w', Code.wp Tryz.prog stepEnd8 (bodyPost Tryz.prog Tryz.f21 (fun e w' => ∃ P' D2, e = .returned (.tuple #[P'.val D2, .bool true]) ∧ WorkR w' P' D2 ∧ Below w.heap.size w w')) a' w' → K51 a' w')
  (hbV : Below w.heap.size w V) (hgw : w.heap.size ≤ gw) (hwr : gw < gr) (hri : gr < gi) (hix : gi < gx) (hxm : gx < gmm)
  (hw : Blk V gw 27 [.int .i64 D.id, .int .i64 D.nodes, .int .i64 D.next, .slice Pw.op.A Pw.op.n Pw.op.c, .int .i64 D.age, .int .i64 D.clock, .slice Pw.wa.A Pw.wa.n Pw.wa.c, .slice Pw.he.A Pw.he.n Pw.he.c, .slice Pw.re.A Pw.re.n Pw.re.c]) (hi : Blk V gi 27 [.int .i64 D.id, .int .i64 D.nodes, .int .i64 D.next, .slice Pi.op.A Pi.op.n Pi.op.c, .int .i64 D.age, .int .i64 D.clock, .slice Pi.wa.A Pi.wa.n Pi.wa.c, .slice Pi.he.A Pi.he.n Pi.he.c, .slice Pi.re.A Pi.re.n Pi.re.c]) (hr : Blk V gr 27 [.int .i64 0, .int .i64 0, .int .i64 0, .slice none 0 0, .int .i64 0, .int .i64 0, .slice none 0 0, .slice none 0 0, .slice none 0 0]) (hx : Blk V gx 27 [.int .i64 0, .int .i64 0, .int .i64 0, .slice none 0 0, .int .i64 0, .int .i64 0, .slice none 0 0, .slice none 0 0, .slice none 0 0]) (hm : Blk V gmm 49 [.int .i64 M.ki, .int .i64 M.fr, .int .i64 M.tt, .int .i64 M.di, .int .i64 M.b.au, .int .i64 M.b.n, .slice Qm.b.A Qm.b.n Qm.b.c, .int .i64 M.h.au, .int .i64 M.h.ro, .slice Qm.h.b.A Qm.h.b.n Qm.h.b.c, .slice Qm.h.p.A Qm.h.p.n Qm.h.p.c, .int .i64 M.c.h.au, .int .i64 M.c.h.ro, .slice Qm.c.h.b.A Qm.c.h.b.n Qm.c.h.b.c, .slice Qm.c.h.p.A Qm.c.h.p.n Qm.c.h.p.c, .int .i64 M.c.di, .slice Qm.c.s.A Qm.c.s.n Qm.c.s.c, .slice Qm.ds.A Qm.ds.n Qm.ds.c])
  (hWR : WorkR w Pw D) {B0 : Nat} (hIO : WorkO V B0 Pi D) (hBD : BigD D) (hOM : OwnM V w.heap.size Qm M) (hML : MilM M)
  (hTake : ∀ Qc X, Below V.heap.size V X → MsgR X Qc M → Calls Tryz.prog 51 #[Pi.val D, M18 Qc M] X fun e w' => ∃ Px A n c, e = .returned (.tuple #[WorkP.val Px D', .slice A n c, .int .i64 0]) ∧ WorkO w' X.heap.size Px D' ∧ OwnMs w' X.heap.size (.slice A n c) L' ∧ Below X.heap.size X w')
  (hbg : BigD D') (hsm : D'.op.length ≤ 1000000 ∧ D'.wa.length ≤ 1000000 ∧ D'.he.length ≤ 1000000 ∧ D'.re.length ≤ 1000000 ∧ (∀ x ∈ D'.wa, x.ak.length ≤ 1000000) ∧ (∀ x ∈ D'.he, x.b.tx.length ≤ 1000000))
  (hL1 : L'.length ≤ 1000000) (hL2 : ∀ x ∈ L', MilM x) (hgs : gs < V.heap.size) (hgsx : gs ≠ gx) (hgsr : gs ≠ gr) (hq : Blk V gs 70 [.int .i64 D'.id, .int .i64 D'.nodes, .int .i64 D'.next, .slice Pq.op.A Pq.op.n Pq.op.c, .int .i64 D'.age, .int .i64 D'.clock, .slice Pq.wa.A Pq.wa.n Pq.wa.c, .slice Pq.he.A Pq.he.n Pq.he.c, .slice Pq.re.A Pq.re.n Pq.re.c, .slice uA un uc]) (hqo : WorkO V w.heap.size Pq D') (hqm : OwnT dMsg V w.heap.size (.slice uA un uc) us L') :
  Code.wp Tryz.prog (cFst do5Code) (Exit.then K34 (Exit.inBlock 0 (Exit.then K51 (bodyPost Tryz.prog Tryz.f21 (fun e w' => ∃ P' D2, e = .returned (.tuple #[P'.val D2, .bool true]) ∧ WorkR w' P' D2 ∧ Below w.heap.size w w'))))) { tmps := #[u0, u1, .pointer (some ⟨gw, 0, none⟩), u3, .pointer (some ⟨gr, 0, none⟩), u5, .pointer (some ⟨gi, 0, none⟩), u7, .pointer (some ⟨gs, 0, none⟩), .int .i64 0, .pointer (some ⟨gx, 0, none⟩), u11, u12, u13, u14, u15, u16, .pointer (some ⟨gmm, 0, none⟩), u18, u19, u20, u21, u22, u23, u24, u25, u26, u27, u28, u29, u30, u31, u32, u33, u34, u35, u36, u37, u38, u39, u40, u41, u42, u43, u44, u45, u46, u47, u48, u49, u50, u51, u52, u53, u54, u55, u56, u57, u58, u59, u60, u61, u62, u63, u64, u65, u66, u67, u68, u69, u70, u71, u72, u73, u74, u75, u76, u77, u78, u79, u80, u81, u82, u83, u84, u85, u86, u87, u88, u89, u90, u91, u92, u93, u94, u95, u96, u97, u98, u99, u100, u101, u102, u103, u104, u105, u106, u107, u108, u109, u110, u111, u112, u113, u114, u115, u116, u117, u118, u119, u120, u121, u122, u123, u124, u125, u126, u127, u128, u129, u130, u131, u132, u133, u134, u135, u136, u137, u138, u139, u140, u141, u142, u143, u144, u145, u146, u147, u148, u149, u150, u151, u152, u153, u154, u155, u156, u157, u158, u159, u160, u161, u162, u163, u164, u165, u166, u167, u168, u169, u170, u171, u172, u173, u174, u175, u176, u177, u178, u179, u180, u181, u182, u183, u184, u185, u186, u187, u188, u189, u190, u191, u192, u193, u194, u195, u196, u197, u198, u199, u200, u201, u202, u203, u204, u205, u206, u207, u208, u209, u210, u211, u212, u213, u214, u215, u216, u217, u218, u219, u220, u221, u222, u223, u224, u225, u226, u227, u228, u229, u230, u231, u232, u233, u234, u235, u236, u237, u238, u239, u240, u241, u242, u243, u244, u245, u246, u247, u248, u249], defers := [] } V := by
 have HK34 := ħ hK34
 have HK51 := ħ hK51
 have HTK := ħ hTake
 have HW := ħ hw
 have HI := ħ hi
 have HR := ħ hr
 have HX := ħ hx
 have HMB := ħ hm
 have HWR := ħ hWR
 have HIR := ħ (hIO.work hBD)
 have HIO := ħ hIO
 have HBD := ħ hBD
 have HOM := ħ hOM
 have HML := ħ hML
 have HBG := ħ hbg
 have HSM := ħ hsm
 have HL := ħ (And.intro hL1 hL2)
 clear hK34 hK51 hTake hw hi hr hx hm hWR hIO hBD hOM hML hbg hsm hL1 hL2
 have HQ := ħ hq
 have HQO := ħ hqo
 have HQM := ħ hqm
 clear hq hqo hqm
 dsimp only [do5Code, cAfter, cSnd, cFst, cThn, cEls, cBlk, Tryz.f21, Option.getD]
 refine wp_region_list ?_
 simp only [List.append_eq, List.append, List.cons_append, List.nil_append, List.toList_toArray]
 refine wpList_load_mid rfl 49 _ rfl gmm 0 (by simp [Act.eval, Act.put]) [.int .i64 M.ki, .int .i64 M.fr, .int .i64 M.tt, .int .i64 M.di, .int .i64 M.b.au, .int .i64 M.b.n, .slice Qm.b.A Qm.b.n Qm.b.c, .int .i64 M.h.au, .int .i64 M.h.ro, .slice Qm.h.b.A Qm.h.b.n Qm.h.b.c, .slice Qm.h.p.A Qm.h.p.n Qm.h.p.c, .int .i64 M.c.h.au, .int .i64 M.c.h.ro, .slice Qm.c.h.b.A Qm.c.h.b.n Qm.c.h.b.c, .slice Qm.c.h.p.A Qm.c.h.p.n Qm.c.h.p.c, .int .i64 M.c.di, .slice Qm.c.s.A Qm.c.s.n Qm.c.s.c, .slice Qm.ds.A Qm.ds.n Qm.ds.c] _ HMB.out.rng Tryz.underlying49 (by rfl) (by kernel_rfl) ?_
 (try simp only [lz, List.toList_toArray])
 refine wpList_plain rfl (fun K hK => ?_)
 go_simp
 refine (ref0_CopyMessageO Qm M _ (HOM.out.msg HML.out.big) HML.out.big).mono ?_
 rintro e w1 ⟨Qc, he1, hO1, hb1⟩
 simp only [M18] at he1
 subst he1
 dsimp only
 refine hK _ _ ?_
 clear hK K
 (try simp only [lz])
 have HOC := ħ hO1
 clear hO1
 refine wpList_plain rfl (fun K hK => ?_)
 go_simp
 refine hK _ _ ?_
 clear hK K
 (try simp only [lz])
 refine wpList_store_mid rfl 49 _ _ rfl w1.heap.size 0 ([.int .i64 M.ki, .int .i64 M.fr, .int .i64 M.tt, .int .i64 M.di, .int .i64 M.b.au, .int .i64 M.b.n, .slice Qc.b.A Qc.b.n Qc.b.c, .int .i64 M.h.au, .int .i64 M.h.ro, .slice Qc.h.b.A Qc.h.b.n Qc.h.b.c, .slice Qc.h.p.A Qc.h.p.n Qc.h.p.c, .int .i64 M.c.h.au, .int .i64 M.c.h.ro, .slice Qc.c.h.b.A Qc.c.h.b.n Qc.c.h.b.c, .slice Qc.c.h.p.A Qc.c.h.p.n Qc.c.h.p.c, .int .i64 M.c.di, .slice Qc.c.s.A Qc.c.s.n Qc.c.s.c, .slice Qc.ds.A Qc.ds.n Qc.ds.c]).toArray (by simp [Act.eval, Act.put]) (by simp [Act.eval, Act.put]) (Blk.new w1 49 [.int .i64 0, .int .i64 0, .int .i64 0, .int .i64 0, .int .i64 0, .int .i64 0, .slice none 0 0, .int .i64 0, .int .i64 0, .slice none 0 0, .slice none 0 0, .int .i64 0, .int .i64 0, .slice none 0 0, .slice none 0 0, .int .i64 0, .slice none 0 0, .slice none 0 0]).thr (by kernel_rfl) (all_oneCell_toArray (by simp [Value.oneCell'])) ?_
 (try simp only [lz])
 try simp only [List.toList_toArray]
 refine wpList_nil ?_
 show K34 _ _
 apply HK34.out
 clear HK34
 dsimp only [do5Code, cAfter, cSnd, cFst, cThn, cEls, cBlk, Tryz.f21, Option.getD]
 refine wp_world (fun Y hY => ?_)
 obtain ⟨gc, hgc⟩ : ∃ g, g = w1.heap.size := ⟨_, rfl⟩
 rw [← hgc] at hY ⊢
 have hB1 : Blk (w1.alloc (.cells #[.int .i64 0, .int .i64 0, .int .i64 0, .int .i64 0, .int .i64 0, .int .i64 0, .slice none 0 0, .int .i64 0, .int .i64 0, .slice none 0 0, .slice none 0 0, .int .i64 0, .int .i64 0, .slice none 0 0, .slice none 0 0, .int .i64 0, .slice none 0 0, .slice none 0 0] 49)) gc 49 [.int .i64 0, .int .i64 0, .int .i64 0, .int .i64 0, .int .i64 0, .int .i64 0, .slice none 0 0, .int .i64 0, .int .i64 0, .slice none 0 0, .slice none 0 0, .int .i64 0, .int .i64 0, .slice none 0 0, .slice none 0 0, .int .i64 0, .slice none 0 0, .slice none 0 0] := by rw [hgc]; exact Blk.new w1 49 [.int .i64 0, .int .i64 0, .int .i64 0, .int .i64 0, .int .i64 0, .int .i64 0, .slice none 0 0, .int .i64 0, .int .i64 0, .slice none 0 0, .slice none 0 0, .int .i64 0, .int .i64 0, .slice none 0 0, .slice none 0 0, .int .i64 0, .slice none 0 0, .slice none 0 0]
 have hal : Below w1.heap.size w1 (w1.alloc (.cells #[.int .i64 0, .int .i64 0, .int .i64 0, .int .i64 0, .int .i64 0, .int .i64 0, .slice none 0 0, .int .i64 0, .int .i64 0, .slice none 0 0, .slice none 0 0, .int .i64 0, .int .i64 0, .slice none 0 0, .slice none 0 0, .int .i64 0, .slice none 0 0, .slice none 0 0] 49)) := bel_alloc (Below.refl _ _)
 have HCB : Hid (Blk Y gc 49 [.int .i64 M.ki, .int .i64 M.fr, .int .i64 M.tt, .int .i64 M.di, .int .i64 M.b.au, .int .i64 M.b.n, .slice Qc.b.A Qc.b.n Qc.b.c, .int .i64 M.h.au, .int .i64 M.h.ro, .slice Qc.h.b.A Qc.h.b.n Qc.h.b.c, .slice Qc.h.p.A Qc.h.p.n Qc.h.p.c, .int .i64 M.c.h.au, .int .i64 M.c.h.ro, .slice Qc.c.h.b.A Qc.c.h.b.n Qc.c.h.b.c, .slice Qc.c.h.p.A Qc.c.h.p.n Qc.c.h.p.c, .int .i64 M.c.di, .slice Qc.c.s.A Qc.c.s.n Qc.c.s.c, .slice Qc.ds.A Qc.ds.n Qc.ds.c]) := ħ (by rw [hY]; exact hB1.setsAll [.int .i64 M.ki, .int .i64 M.fr, .int .i64 M.tt, .int .i64 M.di, .int .i64 M.b.au, .int .i64 M.b.n, .slice Qc.b.A Qc.b.n Qc.b.c, .int .i64 M.h.au, .int .i64 M.h.ro, .slice Qc.h.b.A Qc.h.b.n Qc.h.b.c, .slice Qc.h.p.A Qc.h.p.n Qc.h.p.c, .int .i64 M.c.h.au, .int .i64 M.c.h.ro, .slice Qc.c.h.b.A Qc.c.h.b.n Qc.c.h.b.c, .slice Qc.c.h.p.A Qc.c.h.p.n Qc.c.h.p.c, .int .i64 M.c.di, .slice Qc.c.s.A Qc.c.s.n Qc.c.s.c, .slice Qc.ds.A Qc.ds.n Qc.ds.c] rfl)
 have hVY : Below V.heap.size V Y := by rw [hY]; exact bel_setCells (by rw [hgc]; exact hb1.size) _ _ _ (bel_trans hb1 hal)
 have HOY : Hid (OwnM Y V.heap.size Qc M) := ħ (by rw [hY]; exact (HOC.out.up hal).tkT (TKeep.setsAll hB1 _ _))
 have hcz : w1.heap.size = gc := hgc.symm
 have hYz : Y.heap.size = gc + 1 := by rw [hY, setCells_size]; simp [hcz]
 have HYZ := ħ hYz
 have hvc : V.heap.size ≤ gc := by rw [hgc]; exact hb1.size
 have HOYr : Hid (RowsM Y V.heap.size Qc) := ħ (HOY.out.rowsM HML.out)
 have HOW1 : Hid (∀ q, V.heap.size ≤ q → q < w1.heap.size → q < gc) := ħ (fun q _ h => by omega)
 clear hY hgc hB1 hal hb1 HOC hcz hYz
 have hmx : gmm < V.heap.size := HMB.out.lt
 have HWy := ħ (HW.out.up hVY)
 have HIy := ħ (HI.out.up hVY)
 have HRy := ħ (HR.out.up hVY)
 have HXy := ħ (HX.out.up hVY)
 have HMy := ħ (HMB.out.up hVY)
 have HIRy := ħ (HIR.out.up hVY)
 have HOMy := ħ (HOM.out.up hVY)
 have hbY := bel_trans hbV hVY
 clear HW HI HR HX HMB HIR HOM
 refine wp_seq_k (fun K hK => ?_)
 have HK35 := ħ hK
 clear hK
 refine wp_region_list ?_
 simp only [List.append_eq, List.append, List.cons_append, List.nil_append, List.toList_toArray]
 refine wpList_load_mid rfl 27 _ rfl gi 0 (by simp [Act.eval, Act.put]) [.int .i64 D.id, .int .i64 D.nodes, .int .i64 D.next, .slice Pi.op.A Pi.op.n Pi.op.c, .int .i64 D.age, .int .i64 D.clock, .slice Pi.wa.A Pi.wa.n Pi.wa.c, .slice Pi.he.A Pi.he.n Pi.he.c, .slice Pi.re.A Pi.re.n Pi.re.c] _ HIy.out.rng Tryz.underlying27 (by rfl) (by kernel_rfl) ?_
 (try simp only [lz, List.toList_toArray])
 refine wpList_load_mid rfl 49 _ rfl gc 0 (by simp [Act.eval, Act.put]) [.int .i64 M.ki, .int .i64 M.fr, .int .i64 M.tt, .int .i64 M.di, .int .i64 M.b.au, .int .i64 M.b.n, .slice Qc.b.A Qc.b.n Qc.b.c, .int .i64 M.h.au, .int .i64 M.h.ro, .slice Qc.h.b.A Qc.h.b.n Qc.h.b.c, .slice Qc.h.p.A Qc.h.p.n Qc.h.p.c, .int .i64 M.c.h.au, .int .i64 M.c.h.ro, .slice Qc.c.h.b.A Qc.c.h.b.n Qc.c.h.b.c, .slice Qc.c.h.p.A Qc.c.h.p.n Qc.c.h.p.c, .int .i64 M.c.di, .slice Qc.c.s.A Qc.c.s.n Qc.c.s.c, .slice Qc.ds.A Qc.ds.n Qc.ds.c] _ HCB.out.rng Tryz.underlying49 (by rfl) (by kernel_rfl) ?_
 (try simp only [lz, List.toList_toArray])
 refine wpList_plain rfl (fun K hK => ?_)
 go_simp
 refine (HTK.out Qc Y hVY (HOY.out.msg HML.out.big)).mono ?_
 rintro e w5 ⟨Px, lA, ln, lc, he5, hO5, hM5, hb5⟩
 simp only [WorkP.val] at he5
 subst he5
 dsimp only
 refine hK _ _ ?_
 clear hK K
 (try simp only [lz])
 have hX5 := HXy.out.up hb5
 iterate 4 ((refine wpList_plain rfl (fun K hK => ?_)); go_simp; refine hK _ _ ?_; clear hK K; (try simp only [lz]))
 refine wpList_store_mid rfl 27 _ _ rfl gx 0 ([.int .i64 D'.id, .int .i64 D'.nodes, .int .i64 D'.next, .slice Px.op.A Px.op.n Px.op.c, .int .i64 D'.age, .int .i64 D'.clock, .slice Px.wa.A Px.wa.n Px.wa.c, .slice Px.he.A Px.he.n Px.he.c, .slice Px.re.A Px.re.n Px.re.c]).toArray (by simp [Act.eval, Act.put]) (by simp [Act.eval, Act.put]) hX5.thr (by kernel_rfl) (all_oneCell_toArray (by simp [Value.oneCell'])) ?_
 (try simp only [lz])
 try simp only [List.toList_toArray]
 iterate 2 ((refine wpList_plain rfl (fun K hK => ?_)); go_simp; refine hK _ _ ?_; clear hK K; (try simp only [lz]))
 refine wpList_nil ?_
 show K _ _
 apply HK35.out
 clear HK35
 refine wp_world (fun Z hZ => ?_)
 have HXz : Hid (Blk Z gx 27 [.int .i64 D'.id, .int .i64 D'.nodes, .int .i64 D'.next, .slice Px.op.A Px.op.n Px.op.c, .int .i64 D'.age, .int .i64 D'.clock, .slice Px.wa.A Px.wa.n Px.wa.c, .slice Px.he.A Px.he.n Px.he.c, .slice Px.re.A Px.re.n Px.re.c]) := ħ (by rw [hZ]; exact hX5.setsAll [.int .i64 D'.id, .int .i64 D'.nodes, .int .i64 D'.next, .slice Px.op.A Px.op.n Px.op.c, .int .i64 D'.age, .int .i64 D'.clock, .slice Px.wa.A Px.wa.n Px.wa.c, .slice Px.he.A Px.he.n Px.he.c, .slice Px.re.A Px.re.n Px.re.c] rfl)
 have htz : TKeep 27 w5 Z := by rw [hZ]; exact TKeep.setsAll hX5 _ _
 have far : ∀ g t cs, Blk Y g t cs → g ≠ gx → Blk Z g t cs := fun g t cs h hne => by rw [hZ]; exact (h.up hb5).setsFar hne
 have HOx : Hid (WorkO Z Y.heap.size Px D') := ħ (hO5.tk htz twWork)
 have HMx : Hid (OwnMs Z Y.heap.size (.slice lA ln lc) L') := ħ (hM5.tk htz twWork)
 have hbZ : Below w.heap.size w Z := by rw [hZ]; exact bel_setCells (by omega) _ _ _ (bel_trans hbY hb5)
 have hYZ : Y.heap.size ≤ Z.heap.size := by rw [hZ, setCells_size]; exact hb5.size
 have HWz := ħ (far _ _ _ HWy.out (by omega))
 have HIz := ħ (far _ _ _ HIy.out (by omega))
 have HRz := ħ (far _ _ _ HRy.out (by omega))
 have HMz := ħ (far _ _ _ HMy.out (by omega))
 have HCz := ħ (far _ _ _ HCB.out (by omega))
 have HOMz := ħ ((HOMy.out.up hb5).tk htz twWork)
 have HOCz := ħ ((HOY.out.up hb5).tk htz twWork)
 have HYTZ : Hid (TKeep 27 Y Z) := ħ ((TKeep.of_below hb5).trans htz)
 clear hZ far htz hO5 hM5 hb5 hX5 HIRy HWy HIy HRy HMy HCB HOMy HOY HXy
 refine wp_seq_k (fun K hK => ?_)
 have HK36 := ħ hK
 clear hK
 refine wp_seq_k (fun Kc hKc => ?_)
 have HKC := ħ hKc
 clear hKc
 refine wp_region_list ?_
 simp only [List.append_eq, List.append, List.cons_append, List.nil_append, List.toList_toArray]
 refine wpList_load_mid rfl 49 _ rfl gc 0 (by simp [Act.eval, Act.put]) [.int .i64 M.ki, .int .i64 M.fr, .int .i64 M.tt, .int .i64 M.di, .int .i64 M.b.au, .int .i64 M.b.n, .slice Qc.b.A Qc.b.n Qc.b.c, .int .i64 M.h.au, .int .i64 M.h.ro, .slice Qc.h.b.A Qc.h.b.n Qc.h.b.c, .slice Qc.h.p.A Qc.h.p.n Qc.h.p.c, .int .i64 M.c.h.au, .int .i64 M.c.h.ro, .slice Qc.c.h.b.A Qc.c.h.b.n Qc.c.h.b.c, .slice Qc.c.h.p.A Qc.c.h.p.n Qc.c.h.p.c, .int .i64 M.c.di, .slice Qc.c.s.A Qc.c.s.n Qc.c.s.c, .slice Qc.ds.A Qc.ds.n Qc.ds.c] _ HCz.out.rng Tryz.underlying49 (by rfl) (by kernel_rfl) ?_
 (try simp only [lz, List.toList_toArray])
 refine wpList_load_mid rfl 49 _ rfl gmm 0 (by simp [Act.eval, Act.put]) [.int .i64 M.ki, .int .i64 M.fr, .int .i64 M.tt, .int .i64 M.di, .int .i64 M.b.au, .int .i64 M.b.n, .slice Qm.b.A Qm.b.n Qm.b.c, .int .i64 M.h.au, .int .i64 M.h.ro, .slice Qm.h.b.A Qm.h.b.n Qm.h.b.c, .slice Qm.h.p.A Qm.h.p.n Qm.h.p.c, .int .i64 M.c.h.au, .int .i64 M.c.h.ro, .slice Qm.c.h.b.A Qm.c.h.b.n Qm.c.h.b.c, .slice Qm.c.h.p.A Qm.c.h.p.n Qm.c.h.p.c, .int .i64 M.c.di, .slice Qm.c.s.A Qm.c.s.n Qm.c.s.c, .slice Qm.ds.A Qm.ds.n Qm.ds.c] _ HMz.out.rng Tryz.underlying49 (by rfl) (by kernel_rfl) ?_
 (try simp only [lz, List.toList_toArray])
 refine wpList_plain rfl (fun K hK => ?_)
 go_simp
 refine (ref0_EqMessage Qc Qm M _ (HOCz.out.msg HML.out.big) (HOMz.out.msg HML.out.big)).mono ?_
 rintro e w6 ⟨rfl, hb6⟩
 dsimp only
 refine hK _ _ ?_
 clear hK K
 (try simp only [lz])
 refine wpList_plain rfl (fun K hK => ?_)
 go_simp
 refine hK _ _ ?_
 clear hK K
 (try simp only [lz])
 refine wpList_nil ?_
 show Kc _ _
 apply HKC.out
 clear HKC
 go_wp2_with fail
 show K _ _
 apply HK36.out
 clear HK36
 refine wp_region_list ?_
 simp only [List.append_eq, List.append, List.cons_append, List.nil_append, List.toList_toArray]
 refine wpList_load_mid rfl 49 _ rfl gc 0 (by simp [Act.eval, Act.put]) [.int .i64 M.ki, .int .i64 M.fr, .int .i64 M.tt, .int .i64 M.di, .int .i64 M.b.au, .int .i64 M.b.n, .slice Qc.b.A Qc.b.n Qc.b.c, .int .i64 M.h.au, .int .i64 M.h.ro, .slice Qc.h.b.A Qc.h.b.n Qc.h.b.c, .slice Qc.h.p.A Qc.h.p.n Qc.h.p.c, .int .i64 M.c.h.au, .int .i64 M.c.h.ro, .slice Qc.c.h.b.A Qc.c.h.b.n Qc.c.h.b.c, .slice Qc.c.h.p.A Qc.c.h.p.n Qc.c.h.p.c, .int .i64 M.c.di, .slice Qc.c.s.A Qc.c.s.n Qc.c.s.c, .slice Qc.ds.A Qc.ds.n Qc.ds.c] _ (HCz.out.up hb6).rng Tryz.underlying49 (by rfl) (by kernel_rfl) ?_
 (try simp only [lz, List.toList_toArray])
 refine wpList_plain rfl (fun K hK => ?_)
 go_simp
 refine hK _ _ ?_
 clear hK K
 (try simp only [lz])
 refine wp_world (fun U hU => ?_)
 obtain ⟨gM, hgM⟩ : ∃ g, g = w6.heap.size := ⟨_, rfl⟩
 rw [← hgM]
 have hMB : Blk U gM 49 [.int .i64 M.ki, .int .i64 M.fr, .int .i64 M.tt, .int .i64 M.di, .int .i64 M.b.au, .int .i64 M.b.n, .slice Qc.b.A Qc.b.n Qc.b.c, .int .i64 M.h.au, .int .i64 M.h.ro, .slice Qc.h.b.A Qc.h.b.n Qc.h.b.c, .slice Qc.h.p.A Qc.h.p.n Qc.h.p.c, .int .i64 M.c.h.au, .int .i64 M.c.h.ro, .slice Qc.c.h.b.A Qc.c.h.b.n Qc.c.h.b.c, .slice Qc.c.h.p.A Qc.c.h.p.n Qc.c.h.p.c, .int .i64 M.c.di, .slice Qc.c.s.A Qc.c.s.n Qc.c.s.c, .slice Qc.ds.A Qc.ds.n Qc.ds.c] := by rw [hU, hgM]; exact Blk.new w6 49 [.int .i64 M.ki, .int .i64 M.fr, .int .i64 M.tt, .int .i64 M.di, .int .i64 M.b.au, .int .i64 M.b.n, .slice Qc.b.A Qc.b.n Qc.b.c, .int .i64 M.h.au, .int .i64 M.h.ro, .slice Qc.h.b.A Qc.h.b.n Qc.h.b.c, .slice Qc.h.p.A Qc.h.p.n Qc.h.p.c, .int .i64 M.c.h.au, .int .i64 M.c.h.ro, .slice Qc.c.h.b.A Qc.c.h.b.n Qc.c.h.b.c, .slice Qc.c.h.p.A Qc.c.h.p.n Qc.c.h.p.c, .int .i64 M.c.di, .slice Qc.c.s.A Qc.c.s.n Qc.c.s.c, .slice Qc.ds.A Qc.ds.n Qc.ds.c]
 have hbU6 : Below w6.heap.size w6 U := by rw [hU]; exact bel_alloc (Below.refl _ _)
 have hbZU := bel_trans hb6 hbU6
 have hVYs0 := hVY.size
 have hgMZ : Z.heap.size ≤ gM := by rw [hgM]; exact hb6.size
 have hgMU : gM < U.heap.size := hMB.lt
 clear hU hgM hbU6
 obtain ⟨p, hp⟩ : ∃ p : Nat → Prop, p = fun k => k < V.heap.size ∨ (Y.heap.size ≤ k ∧ k ≠ gM) := ⟨_, rfl⟩
 have hrp : RowsP U p Qc := by
  have h0 : RowsP Y p Qc := (HOYr.out).prot (fun g h1 h2 => by rw [hp]; show ¬ (g < V.heap.size ∨ (Y.heap.size ≤ g ∧ g ≠ gM)); omega)
  exact (h0.tk HYTZ.out).keep (S := fun _ => False) (.of_below hbZU)
 have hMB' : U.heap[gM]? = some (.cells ([.int .i64 M.ki, .int .i64 M.fr, .int .i64 M.tt, .int .i64 M.di, .int .i64 M.b.au, .int .i64 M.b.n, .slice Qc.b.A Qc.b.n Qc.b.c, .int .i64 M.h.au, .int .i64 M.h.ro, .slice Qc.h.b.A Qc.h.b.n Qc.h.b.c, .slice Qc.h.p.A Qc.h.p.n Qc.h.p.c, .int .i64 M.c.h.au, .int .i64 M.c.h.ro, .slice Qc.c.h.b.A Qc.c.h.b.n Qc.c.h.b.c, .slice Qc.c.h.p.A Qc.c.h.p.n Qc.c.h.p.c, .int .i64 M.c.di, .slice Qc.c.s.A Qc.c.s.n Qc.c.s.c, .slice Qc.ds.A Qc.ds.n Qc.ds.c]).toArray 49 (0, 0)) := hMB
 have hpM : ¬ p gM := by rw [hp]; show ¬ (gM < V.heap.size ∨ (Y.heap.size ≤ gM ∧ gM ≠ gM)); omega
 have hrm : RowMP U p ⟨some ⟨gM, 0, none⟩, 1, 1⟩ := .inr ⟨gM, ([.int .i64 M.ki, .int .i64 M.fr, .int .i64 M.tt, .int .i64 M.di, .int .i64 M.b.au, .int .i64 M.b.n, .slice Qc.b.A Qc.b.n Qc.b.c, .int .i64 M.h.au, .int .i64 M.h.ro, .slice Qc.h.b.A Qc.h.b.n Qc.h.b.c, .slice Qc.h.p.A Qc.h.p.n Qc.h.p.c, .int .i64 M.c.h.au, .int .i64 M.c.h.ro, .slice Qc.c.h.b.A Qc.c.h.b.n Qc.c.h.b.c, .slice Qc.c.h.p.A Qc.c.h.p.n Qc.c.h.p.c, .int .i64 M.c.di, .slice Qc.c.s.A Qc.c.s.n Qc.c.s.c, .slice Qc.ds.A Qc.ds.n Qc.ds.c]).toArray, rfl, hpM, hMB', Nat.le_refl _, (show 1 ≤ maxLen by decide), rfl, fun j hj => by
  obtain rfl : j = 0 := by (have : j < 1 := hj); omega
  exact ⟨Qc, M, fun r u hu => (by rw [Nat.zero_mul]; exact hMB.box.2 (0 + r) u (by rw [Nat.zero_add]; exact hu)), hrp⟩⟩
 have HRM0 := ħ hrm
 clear hrm hrp hMB hMB' hpM
 refine wpList_plain rfl (fun K hK => ?_)
 go_simp
 refine (law0_MessagesP ⟨some ⟨gM, 0, none⟩, 1, 1⟩ p _ HRM0.out (show 1 ≤ 1000000 by decide)).mono ?_
 rintro e wm ⟨rfl, hpr, hks⟩
 dsimp only
 refine hK _ _ ?_
 clear hK K
 (try simp only [lz])
 have hP : Prot (fun k => k < V.heap.size ∨ Y.heap.size ≤ k) Z wm := ⟨hpr.os.trans hbZU.os, hpr.tape.trans hbZU.tape, hpr.output.trans hbZU.output, Nat.le_trans hbZU.size hpr.size, fun k hk hq => (hpr.block k (Nat.lt_of_lt_of_le hk hbZU.size) (by rw [hp]; rcases hq with hq | hq; exact .inl hq; exact .inr ⟨hq, by omega⟩)).trans (hbZU.block k hk)⟩
 have HP := ħ hP
 clear hp hpr hks HRM0 hbZU hb6 hgMZ hgMU hP
 refine wpList_nil ?_
 show K51 _ _
 apply HK51.out
 clear HK51
 dsimp only [stepEnd8, cAfter, cSnd, cFst, Tryz.f21, Option.getD]
 have hVZ : V.heap.size ≤ Z.heap.size := Nat.le_trans hVY.size hYZ
 have hVYs := hVY.size
 have hbwm : Below w.heap.size w wm := hbZ.trans (HP.out.below (Nat.le_trans hbV.size hVZ) (fun k hk => .inl (Nat.lt_of_lt_of_le hk hbV.size)))
 have hVm : Below V.heap.size Z wm := HP.out.below hVZ (fun k hk => .inl hk)
 have hTV : TKeep 27 V wm := tk_belB ((TKeep.of_below hVY).trans HYTZ.out) hVm
 have lim : ∀ g, g < V.heap.size → (g < V.heap.size ∨ Y.heap.size ≤ g) := fun g h => .inl h
 have hgml : gx < V.heap.size := by omega
 have HWm := ħ (HWz.out.prot HP.out (.inl (by omega)))
 have HIm := ħ (HIz.out.prot HP.out (.inl (by omega)))
 have HRm := ħ (HRz.out.prot HP.out (.inl (by omega)))
 have HXm := ħ (HXz.out.prot HP.out (.inl (by omega)))
 have HOm := ħ (HOx.out.prot HP.out (fun q h1 _ => .inr h1))
 have HMm := ħ (HMx.out.prot HP.out (fun q h1 _ => .inr h1))
 have hYm : Y.heap.size ≤ wm.heap.size := Nat.le_trans hYZ HP.out.size
 have hTVH := ħ hTV
 clear hVm hTV HWz HIz HRz HXz HOx HMx HMz HCz HOMz HOCz HYTZ hbZ hbY HYZ HOW1 HOYr
 go_upto_region 53 with fail
 rename_i K9 hK9
 obtain ⟨W, hW⟩ : ∃ W, W = wm := ⟨_, rfl⟩
 rw [← hW] at HWm HIm HRm HXm HOm HMm hbwm hYm hTVH ⊢
 have hWz : W.heap.size = wm.heap.size := by rw [hW]
 clear hW hWz
 have HQm : Hid (Blk W gs 70 [.int .i64 D'.id, .int .i64 D'.nodes, .int .i64 D'.next, .slice Pq.op.A Pq.op.n Pq.op.c, .int .i64 D'.age, .int .i64 D'.clock, .slice Pq.wa.A Pq.wa.n Pq.wa.c, .slice Pq.he.A Pq.he.n Pq.he.c, .slice Pq.re.A Pq.re.n Pq.re.c, .slice uA un uc]) := ħ (HQ.out.tk hTVH.out (by decide))
 have HQOm : Hid (WorkO W w.heap.size Pq D') := ħ (HQO.out.tk hTVH.out twWork)
 have HQMm : Hid (OwnT dMsg W w.heap.size (.slice uA un uc) us L') := ħ (OwnT.tkM HQM.out hTVH.out twWork)
 have hmsL : BigMs L' := ⟨Nat.le_trans HL.out.1 (by decide), fun x hx => (HL.out.2 x hx).big⟩
 obtain ⟨A1, c1, e1, hr1, _⟩ := OwnMs.msgs HMm.out hmsL
 obtain ⟨A2, c2, e2, hr2, _⟩ := OwnMs.msgs ⟨us, HQMm.out⟩ hmsL
 injection e2 with ea2 eb2 ec2
 rw [← ea2, ← eb2] at hr2
 injection e1 with ea1 eb1 ec1
 rw [← ea1, ← eb1] at hr1
 have hln : ln ≤ 1000000 := by rw [eb1]; exact HL.out.1
 have hrmm : RowM W Y.heap.size ⟨lA, ln, lc⟩ := by
  obtain ⟨ls, h9⟩ := HMm.out
  exact msgs_rowM (s := ⟨lA, ln, lc⟩) h9 HL.out.2
 have HR1 := ħ hr1
 have HRMM := ħ hrmm
 clear ea1 eb1 ec1 hr1 hrmm
 have HR2 := ħ hr2
 clear ea2 eb2 ec2 hr2
 have hR8 := HOm.out.work HBG.out
 have hwV := hbV.size
 exact step_tail w W Y.heap.size gw gr gi gs gx Pw Pi Pq Px D D' 0 uA lA un uc ln lc hK9 hbwm (by omega) hYm (by omega) (by omega) (by omega) (by omega) (by omega) (fun Y' hY' => ⟨HWR.out.up (hbwm.trans (hY'.mono (by omega))), ((HIO.out.tk (tk_belB hTVH.out (hY'.mono hVYs)) twWork).work HBD.out), HWm.out.below hY' (by omega), HIm.out.below hY' (by omega), HRm.out.below hY' (by omega)⟩) (fun Y' hY' => ⟨(HQOm.out.up hY').work HBG.out, HQm.out.up hY'⟩) (fun _ Y' hY' => HQm.out.below hY' (by omega)) (fun Y' hY' a0 a1 a2 a3 a4 a5 a6 a7 a8 => by rw [if_pos rfl]; exact ((HQO.out.tk (tk_belB hTVH.out (hY'.mono hVYs)) twWork).tk (TKeep.sets9 (HRm.out.below hY' (by omega)) a0 a1 a2 a3 a4 a5 a6 a7 a8) twWork).work HBG.out) HXm.out HOm.out HBG.out (by have e1 := hR8.op.1; rw [← e1]; exact HSM.out.1) (by have e1 := hR8.wa.1; rw [← e1]; exact HSM.out.2.1) (by have e1 := hR8.he.1; rw [← e1]; exact HSM.out.2.2.1) (by have e1 := hR8.re.1; rw [← e1]; exact HSM.out.2.2.2.1) HSM.out.2.2.2.2.1 HSM.out.2.2.2.2.2 (fun Y' hY' => ref0_EqMessages lA ln lc uA un uc L' Y' (HR1.out.up hY') (HR2.out.up hY')) (fun Y' hY' hk => (law0_MessagesS ⟨lA, ln, lc⟩ Y.heap.size Y' (HRMM.out.keep hk (by unfold SWork; decide)) hln (Nat.le_trans hYm hY'.size)).mono fun e w' h => ⟨h.1, h.2.1⟩)
set_option maxHeartbeats 8000000 in
theorem do5_1 {K34 K51 : Act → World → Prop} (w V : World) (gw gr gi gs gx gmm : Nat) (Pw Pi Pq : WorkP) (D D' : WorkD) (L' : List MsgD) (us : List MsgP) (Qm : MsgP) (M : MsgD) (uA : Option Addr) (un uc : Nat) {u0 u1 u3 u5 u7 u11 u12 u13 u14 u15 u16 u18 u19 u20 u21 u22 u23 u24 u25 u26 u27 u28 u29 u30 u31 u32 u33 u34 u35 u36 u37 u38 u39 u40 u41 u42 u43 u44 u45 u46 u47 u48 u49 u50 u51 u52 u53 u54 u55 u56 u57 u58 u59 u60 u61 u62 u63 u64 u65 u66 u67 u68 u69 u70 u71 u72 u73 u74 u75 u76 u77 u78 u79 u80 u81 u82 u83 u84 u85 u86 u87 u88 u89 u90 u91 u92 u93 u94 u95 u96 u97 u98 u99 u100 u101 u102 u103 u104 u105 u106 u107 u108 u109 u110 u111 u112 u113 u114 u115 u116 u117 u118 u119 u120 u121 u122 u123 u124 u125 u126 u127 u128 u129 u130 u131 u132 u133 u134 u135 u136 u137 u138 u139 u140 u141 u142 u143 u144 u145 u146 u147 u148 u149 u150 u151 u152 u153 u154 u155 u156 u157 u158 u159 u160 u161 u162 u163 u164 u165 u166 u167 u168 u169 u170 u171 u172 u173 u174 u175 u176 u177 u178 u179 u180 u181 u182 u183 u184 u185 u186 u187 u188 u189 u190 u191 u192 u193 u194 u195 u196 u197 u198 u199 u200 u201 u202 u203 u204 u205 u206 u207 u208 u209 u210 u211 u212 u213 u214 u215 u216 u217 u218 u219 u220 u221 u222 u223 u224 u225 u226 u227 u228 u229 u230 u231 u232 u233 u234 u235 u236 u237 u238 u239 u240 u241 u242 u243 u244 u245 u246 u247 u248 u249 : Value}
  (hK34 : ∀ a' w', Code.wp Tryz.prog (cSnd do5Code) (Exit.inBlock 0 (Exit.then K51 (bodyPost Tryz.prog Tryz.f21 (fun e w' => ∃ P' D2, e = .returned (.tuple #[P'.val D2, .bool true]) ∧ WorkR w' P' D2 ∧ Below w.heap.size w w')))) a' w' → K34 a' w') (hK51 : ∀ a' w', Code.wp Tryz.prog stepEnd8 (bodyPost Tryz.prog Tryz.f21 (fun e w' => ∃ P' D2, e = .returned (.tuple #[P'.val D2, .bool true]) ∧ WorkR w' P' D2 ∧ Below w.heap.size w w')) a' w' → K51 a' w')
  (hbV : Below w.heap.size w V) (hgw : w.heap.size ≤ gw) (hwr : gw < gr) (hri : gr < gi) (hix : gi < gx) (hxm : gx < gmm)
  (hw : Blk V gw 27 [.int .i64 D.id, .int .i64 D.nodes, .int .i64 D.next, .slice Pw.op.A Pw.op.n Pw.op.c, .int .i64 D.age, .int .i64 D.clock, .slice Pw.wa.A Pw.wa.n Pw.wa.c, .slice Pw.he.A Pw.he.n Pw.he.c, .slice Pw.re.A Pw.re.n Pw.re.c]) (hi : Blk V gi 27 [.int .i64 D.id, .int .i64 D.nodes, .int .i64 D.next, .slice Pi.op.A Pi.op.n Pi.op.c, .int .i64 D.age, .int .i64 D.clock, .slice Pi.wa.A Pi.wa.n Pi.wa.c, .slice Pi.he.A Pi.he.n Pi.he.c, .slice Pi.re.A Pi.re.n Pi.re.c]) (hr : Blk V gr 27 [.int .i64 0, .int .i64 0, .int .i64 0, .slice none 0 0, .int .i64 0, .int .i64 0, .slice none 0 0, .slice none 0 0, .slice none 0 0]) (hx : Blk V gx 27 [.int .i64 0, .int .i64 0, .int .i64 0, .slice none 0 0, .int .i64 0, .int .i64 0, .slice none 0 0, .slice none 0 0, .slice none 0 0]) (hm : Blk V gmm 49 [.int .i64 M.ki, .int .i64 M.fr, .int .i64 M.tt, .int .i64 M.di, .int .i64 M.b.au, .int .i64 M.b.n, .slice Qm.b.A Qm.b.n Qm.b.c, .int .i64 M.h.au, .int .i64 M.h.ro, .slice Qm.h.b.A Qm.h.b.n Qm.h.b.c, .slice Qm.h.p.A Qm.h.p.n Qm.h.p.c, .int .i64 M.c.h.au, .int .i64 M.c.h.ro, .slice Qm.c.h.b.A Qm.c.h.b.n Qm.c.h.b.c, .slice Qm.c.h.p.A Qm.c.h.p.n Qm.c.h.p.c, .int .i64 M.c.di, .slice Qm.c.s.A Qm.c.s.n Qm.c.s.c, .slice Qm.ds.A Qm.ds.n Qm.ds.c])
  (hWR : WorkR w Pw D) {B0 : Nat} (hIO : WorkO V B0 Pi D) (hBD : BigD D) (hOM : OwnM V w.heap.size Qm M) (hML : MilM M)
  (hTake : ∀ Qc X, Below V.heap.size V X → MsgR X Qc M → Calls Tryz.prog 51 #[Pi.val D, M18 Qc M] X fun e w' => ∃ Px A n c, e = .returned (.tuple #[WorkP.val Px D', .slice A n c, .int .i64 1]) ∧ WorkO w' X.heap.size Px D' ∧ OwnMs w' X.heap.size (.slice A n c) L' ∧ Below X.heap.size X w')
  (hbg : BigD D') (hsm : D'.op.length ≤ 1000000 ∧ D'.wa.length ≤ 1000000 ∧ D'.he.length ≤ 1000000 ∧ D'.re.length ≤ 1000000 ∧ (∀ x ∈ D'.wa, x.ak.length ≤ 1000000) ∧ (∀ x ∈ D'.he, x.b.tx.length ≤ 1000000))
  (hL1 : L'.length ≤ 1000000) (hL2 : ∀ x ∈ L', MilM x) (hL0 : L' = []) (hD0 : D' = zeroWD) :
  Code.wp Tryz.prog (cFst do5Code) (Exit.then K34 (Exit.inBlock 0 (Exit.then K51 (bodyPost Tryz.prog Tryz.f21 (fun e w' => ∃ P' D2, e = .returned (.tuple #[P'.val D2, .bool true]) ∧ WorkR w' P' D2 ∧ Below w.heap.size w w'))))) { tmps := #[u0, u1, .pointer (some ⟨gw, 0, none⟩), u3, .pointer (some ⟨gr, 0, none⟩), u5, .pointer (some ⟨gi, 0, none⟩), u7, .pointer (some ⟨gs, 0, none⟩), .int .i64 1, .pointer (some ⟨gx, 0, none⟩), u11, u12, u13, u14, u15, u16, .pointer (some ⟨gmm, 0, none⟩), u18, u19, u20, u21, u22, u23, u24, u25, u26, u27, u28, u29, u30, u31, u32, u33, u34, u35, u36, u37, u38, u39, u40, u41, u42, u43, u44, u45, u46, u47, u48, u49, u50, u51, u52, u53, u54, u55, u56, u57, u58, u59, u60, u61, u62, u63, u64, u65, u66, u67, u68, u69, u70, u71, u72, u73, u74, u75, u76, u77, u78, u79, u80, u81, u82, u83, u84, u85, u86, u87, u88, u89, u90, u91, u92, u93, u94, u95, u96, u97, u98, u99, u100, u101, u102, u103, u104, u105, u106, u107, u108, u109, u110, u111, u112, u113, u114, u115, u116, u117, u118, u119, u120, u121, u122, u123, u124, u125, u126, u127, u128, u129, u130, u131, u132, u133, u134, u135, u136, u137, u138, u139, u140, u141, u142, u143, u144, u145, u146, u147, u148, u149, u150, u151, u152, u153, u154, u155, u156, u157, u158, u159, u160, u161, u162, u163, u164, u165, u166, u167, u168, u169, u170, u171, u172, u173, u174, u175, u176, u177, u178, u179, u180, u181, u182, u183, u184, u185, u186, u187, u188, u189, u190, u191, u192, u193, u194, u195, u196, u197, u198, u199, u200, u201, u202, u203, u204, u205, u206, u207, u208, u209, u210, u211, u212, u213, u214, u215, u216, u217, u218, u219, u220, u221, u222, u223, u224, u225, u226, u227, u228, u229, u230, u231, u232, u233, u234, u235, u236, u237, u238, u239, u240, u241, u242, u243, u244, u245, u246, u247, u248, u249], defers := [] } V := by
 have HL0 := ħ hL0
 have HD0 := ħ hD0
 clear hL0 hD0
 have HK34 := ħ hK34
 have HK51 := ħ hK51
 have HTK := ħ hTake
 have HW := ħ hw
 have HI := ħ hi
 have HR := ħ hr
 have HX := ħ hx
 have HMB := ħ hm
 have HWR := ħ hWR
 have HIR := ħ (hIO.work hBD)
 have HIO := ħ hIO
 have HBD := ħ hBD
 have HOM := ħ hOM
 have HML := ħ hML
 have HBG := ħ hbg
 have HSM := ħ hsm
 have HL := ħ (And.intro hL1 hL2)
 clear hK34 hK51 hTake hw hi hr hx hm hWR hIO hBD hOM hML hbg hsm hL1 hL2
 dsimp only [do5Code, cAfter, cSnd, cFst, cThn, cEls, cBlk, Tryz.f21, Option.getD]
 refine wp_region_list ?_
 simp only [List.append_eq, List.append, List.cons_append, List.nil_append, List.toList_toArray]
 refine wpList_load_mid rfl 49 _ rfl gmm 0 (by simp [Act.eval, Act.put]) [.int .i64 M.ki, .int .i64 M.fr, .int .i64 M.tt, .int .i64 M.di, .int .i64 M.b.au, .int .i64 M.b.n, .slice Qm.b.A Qm.b.n Qm.b.c, .int .i64 M.h.au, .int .i64 M.h.ro, .slice Qm.h.b.A Qm.h.b.n Qm.h.b.c, .slice Qm.h.p.A Qm.h.p.n Qm.h.p.c, .int .i64 M.c.h.au, .int .i64 M.c.h.ro, .slice Qm.c.h.b.A Qm.c.h.b.n Qm.c.h.b.c, .slice Qm.c.h.p.A Qm.c.h.p.n Qm.c.h.p.c, .int .i64 M.c.di, .slice Qm.c.s.A Qm.c.s.n Qm.c.s.c, .slice Qm.ds.A Qm.ds.n Qm.ds.c] _ HMB.out.rng Tryz.underlying49 (by rfl) (by kernel_rfl) ?_
 (try simp only [lz, List.toList_toArray])
 refine wpList_plain rfl (fun K hK => ?_)
 go_simp
 refine (ref0_CopyMessageO Qm M _ (HOM.out.msg HML.out.big) HML.out.big).mono ?_
 rintro e w1 ⟨Qc, he1, hO1, hb1⟩
 simp only [M18] at he1
 subst he1
 dsimp only
 refine hK _ _ ?_
 clear hK K
 (try simp only [lz])
 have HOC := ħ hO1
 clear hO1
 refine wpList_plain rfl (fun K hK => ?_)
 go_simp
 refine hK _ _ ?_
 clear hK K
 (try simp only [lz])
 refine wpList_store_mid rfl 49 _ _ rfl w1.heap.size 0 ([.int .i64 M.ki, .int .i64 M.fr, .int .i64 M.tt, .int .i64 M.di, .int .i64 M.b.au, .int .i64 M.b.n, .slice Qc.b.A Qc.b.n Qc.b.c, .int .i64 M.h.au, .int .i64 M.h.ro, .slice Qc.h.b.A Qc.h.b.n Qc.h.b.c, .slice Qc.h.p.A Qc.h.p.n Qc.h.p.c, .int .i64 M.c.h.au, .int .i64 M.c.h.ro, .slice Qc.c.h.b.A Qc.c.h.b.n Qc.c.h.b.c, .slice Qc.c.h.p.A Qc.c.h.p.n Qc.c.h.p.c, .int .i64 M.c.di, .slice Qc.c.s.A Qc.c.s.n Qc.c.s.c, .slice Qc.ds.A Qc.ds.n Qc.ds.c]).toArray (by simp [Act.eval, Act.put]) (by simp [Act.eval, Act.put]) (Blk.new w1 49 [.int .i64 0, .int .i64 0, .int .i64 0, .int .i64 0, .int .i64 0, .int .i64 0, .slice none 0 0, .int .i64 0, .int .i64 0, .slice none 0 0, .slice none 0 0, .int .i64 0, .int .i64 0, .slice none 0 0, .slice none 0 0, .int .i64 0, .slice none 0 0, .slice none 0 0]).thr (by kernel_rfl) (all_oneCell_toArray (by simp [Value.oneCell'])) ?_
 (try simp only [lz])
 try simp only [List.toList_toArray]
 refine wpList_nil ?_
 show K34 _ _
 apply HK34.out
 clear HK34
 dsimp only [do5Code, cAfter, cSnd, cFst, cThn, cEls, cBlk, Tryz.f21, Option.getD]
 refine wp_world (fun Y hY => ?_)
 obtain ⟨gc, hgc⟩ : ∃ g, g = w1.heap.size := ⟨_, rfl⟩
 rw [← hgc] at hY ⊢
 have hB1 : Blk (w1.alloc (.cells #[.int .i64 0, .int .i64 0, .int .i64 0, .int .i64 0, .int .i64 0, .int .i64 0, .slice none 0 0, .int .i64 0, .int .i64 0, .slice none 0 0, .slice none 0 0, .int .i64 0, .int .i64 0, .slice none 0 0, .slice none 0 0, .int .i64 0, .slice none 0 0, .slice none 0 0] 49)) gc 49 [.int .i64 0, .int .i64 0, .int .i64 0, .int .i64 0, .int .i64 0, .int .i64 0, .slice none 0 0, .int .i64 0, .int .i64 0, .slice none 0 0, .slice none 0 0, .int .i64 0, .int .i64 0, .slice none 0 0, .slice none 0 0, .int .i64 0, .slice none 0 0, .slice none 0 0] := by rw [hgc]; exact Blk.new w1 49 [.int .i64 0, .int .i64 0, .int .i64 0, .int .i64 0, .int .i64 0, .int .i64 0, .slice none 0 0, .int .i64 0, .int .i64 0, .slice none 0 0, .slice none 0 0, .int .i64 0, .int .i64 0, .slice none 0 0, .slice none 0 0, .int .i64 0, .slice none 0 0, .slice none 0 0]
 have hal : Below w1.heap.size w1 (w1.alloc (.cells #[.int .i64 0, .int .i64 0, .int .i64 0, .int .i64 0, .int .i64 0, .int .i64 0, .slice none 0 0, .int .i64 0, .int .i64 0, .slice none 0 0, .slice none 0 0, .int .i64 0, .int .i64 0, .slice none 0 0, .slice none 0 0, .int .i64 0, .slice none 0 0, .slice none 0 0] 49)) := bel_alloc (Below.refl _ _)
 have HCB : Hid (Blk Y gc 49 [.int .i64 M.ki, .int .i64 M.fr, .int .i64 M.tt, .int .i64 M.di, .int .i64 M.b.au, .int .i64 M.b.n, .slice Qc.b.A Qc.b.n Qc.b.c, .int .i64 M.h.au, .int .i64 M.h.ro, .slice Qc.h.b.A Qc.h.b.n Qc.h.b.c, .slice Qc.h.p.A Qc.h.p.n Qc.h.p.c, .int .i64 M.c.h.au, .int .i64 M.c.h.ro, .slice Qc.c.h.b.A Qc.c.h.b.n Qc.c.h.b.c, .slice Qc.c.h.p.A Qc.c.h.p.n Qc.c.h.p.c, .int .i64 M.c.di, .slice Qc.c.s.A Qc.c.s.n Qc.c.s.c, .slice Qc.ds.A Qc.ds.n Qc.ds.c]) := ħ (by rw [hY]; exact hB1.setsAll [.int .i64 M.ki, .int .i64 M.fr, .int .i64 M.tt, .int .i64 M.di, .int .i64 M.b.au, .int .i64 M.b.n, .slice Qc.b.A Qc.b.n Qc.b.c, .int .i64 M.h.au, .int .i64 M.h.ro, .slice Qc.h.b.A Qc.h.b.n Qc.h.b.c, .slice Qc.h.p.A Qc.h.p.n Qc.h.p.c, .int .i64 M.c.h.au, .int .i64 M.c.h.ro, .slice Qc.c.h.b.A Qc.c.h.b.n Qc.c.h.b.c, .slice Qc.c.h.p.A Qc.c.h.p.n Qc.c.h.p.c, .int .i64 M.c.di, .slice Qc.c.s.A Qc.c.s.n Qc.c.s.c, .slice Qc.ds.A Qc.ds.n Qc.ds.c] rfl)
 have hVY : Below V.heap.size V Y := by rw [hY]; exact bel_setCells (by rw [hgc]; exact hb1.size) _ _ _ (bel_trans hb1 hal)
 have HOY : Hid (OwnM Y V.heap.size Qc M) := ħ (by rw [hY]; exact (HOC.out.up hal).tkT (TKeep.setsAll hB1 _ _))
 have hcz : w1.heap.size = gc := hgc.symm
 have hYz : Y.heap.size = gc + 1 := by rw [hY, setCells_size]; simp [hcz]
 have HYZ := ħ hYz
 have hvc : V.heap.size ≤ gc := by rw [hgc]; exact hb1.size
 have HOYr : Hid (RowsM Y V.heap.size Qc) := ħ (HOY.out.rowsM HML.out)
 have HOW1 : Hid (∀ q, V.heap.size ≤ q → q < w1.heap.size → q < gc) := ħ (fun q _ h => by omega)
 clear hY hgc hB1 hal hb1 HOC hcz hYz
 have hmx : gmm < V.heap.size := HMB.out.lt
 have HWy := ħ (HW.out.up hVY)
 have HIy := ħ (HI.out.up hVY)
 have HRy := ħ (HR.out.up hVY)
 have HXy := ħ (HX.out.up hVY)
 have HMy := ħ (HMB.out.up hVY)
 have HIRy := ħ (HIR.out.up hVY)
 have HOMy := ħ (HOM.out.up hVY)
 have hbY := bel_trans hbV hVY
 clear HW HI HR HX HMB HIR HOM
 refine wp_seq_k (fun K hK => ?_)
 have HK35 := ħ hK
 clear hK
 refine wp_region_list ?_
 simp only [List.append_eq, List.append, List.cons_append, List.nil_append, List.toList_toArray]
 refine wpList_load_mid rfl 27 _ rfl gi 0 (by simp [Act.eval, Act.put]) [.int .i64 D.id, .int .i64 D.nodes, .int .i64 D.next, .slice Pi.op.A Pi.op.n Pi.op.c, .int .i64 D.age, .int .i64 D.clock, .slice Pi.wa.A Pi.wa.n Pi.wa.c, .slice Pi.he.A Pi.he.n Pi.he.c, .slice Pi.re.A Pi.re.n Pi.re.c] _ HIy.out.rng Tryz.underlying27 (by rfl) (by kernel_rfl) ?_
 (try simp only [lz, List.toList_toArray])
 refine wpList_load_mid rfl 49 _ rfl gc 0 (by simp [Act.eval, Act.put]) [.int .i64 M.ki, .int .i64 M.fr, .int .i64 M.tt, .int .i64 M.di, .int .i64 M.b.au, .int .i64 M.b.n, .slice Qc.b.A Qc.b.n Qc.b.c, .int .i64 M.h.au, .int .i64 M.h.ro, .slice Qc.h.b.A Qc.h.b.n Qc.h.b.c, .slice Qc.h.p.A Qc.h.p.n Qc.h.p.c, .int .i64 M.c.h.au, .int .i64 M.c.h.ro, .slice Qc.c.h.b.A Qc.c.h.b.n Qc.c.h.b.c, .slice Qc.c.h.p.A Qc.c.h.p.n Qc.c.h.p.c, .int .i64 M.c.di, .slice Qc.c.s.A Qc.c.s.n Qc.c.s.c, .slice Qc.ds.A Qc.ds.n Qc.ds.c] _ HCB.out.rng Tryz.underlying49 (by rfl) (by kernel_rfl) ?_
 (try simp only [lz, List.toList_toArray])
 refine wpList_plain rfl (fun K hK => ?_)
 go_simp
 refine (HTK.out Qc Y hVY (HOY.out.msg HML.out.big)).mono ?_
 rintro e w5 ⟨Px, lA, ln, lc, he5, hO5, hM5, hb5⟩
 simp only [WorkP.val] at he5
 subst he5
 dsimp only
 refine hK _ _ ?_
 clear hK K
 (try simp only [lz])
 have hX5 := HXy.out.up hb5
 iterate 4 ((refine wpList_plain rfl (fun K hK => ?_)); go_simp; refine hK _ _ ?_; clear hK K; (try simp only [lz]))
 refine wpList_store_mid rfl 27 _ _ rfl gx 0 ([.int .i64 D'.id, .int .i64 D'.nodes, .int .i64 D'.next, .slice Px.op.A Px.op.n Px.op.c, .int .i64 D'.age, .int .i64 D'.clock, .slice Px.wa.A Px.wa.n Px.wa.c, .slice Px.he.A Px.he.n Px.he.c, .slice Px.re.A Px.re.n Px.re.c]).toArray (by simp [Act.eval, Act.put]) (by simp [Act.eval, Act.put]) hX5.thr (by kernel_rfl) (all_oneCell_toArray (by simp [Value.oneCell'])) ?_
 (try simp only [lz])
 try simp only [List.toList_toArray]
 iterate 2 ((refine wpList_plain rfl (fun K hK => ?_)); go_simp; refine hK _ _ ?_; clear hK K; (try simp only [lz]))
 refine wpList_nil ?_
 show K _ _
 apply HK35.out
 clear HK35
 refine wp_world (fun Z hZ => ?_)
 have HXz : Hid (Blk Z gx 27 [.int .i64 D'.id, .int .i64 D'.nodes, .int .i64 D'.next, .slice Px.op.A Px.op.n Px.op.c, .int .i64 D'.age, .int .i64 D'.clock, .slice Px.wa.A Px.wa.n Px.wa.c, .slice Px.he.A Px.he.n Px.he.c, .slice Px.re.A Px.re.n Px.re.c]) := ħ (by rw [hZ]; exact hX5.setsAll [.int .i64 D'.id, .int .i64 D'.nodes, .int .i64 D'.next, .slice Px.op.A Px.op.n Px.op.c, .int .i64 D'.age, .int .i64 D'.clock, .slice Px.wa.A Px.wa.n Px.wa.c, .slice Px.he.A Px.he.n Px.he.c, .slice Px.re.A Px.re.n Px.re.c] rfl)
 have htz : TKeep 27 w5 Z := by rw [hZ]; exact TKeep.setsAll hX5 _ _
 have far : ∀ g t cs, Blk Y g t cs → g ≠ gx → Blk Z g t cs := fun g t cs h hne => by rw [hZ]; exact (h.up hb5).setsFar hne
 have HOx : Hid (WorkO Z Y.heap.size Px D') := ħ (hO5.tk htz twWork)
 have HMx : Hid (OwnMs Z Y.heap.size (.slice lA ln lc) L') := ħ (hM5.tk htz twWork)
 have hbZ : Below w.heap.size w Z := by rw [hZ]; exact bel_setCells (by omega) _ _ _ (bel_trans hbY hb5)
 have hYZ : Y.heap.size ≤ Z.heap.size := by rw [hZ, setCells_size]; exact hb5.size
 have HWz := ħ (far _ _ _ HWy.out (by omega))
 have HIz := ħ (far _ _ _ HIy.out (by omega))
 have HRz := ħ (far _ _ _ HRy.out (by omega))
 have HMz := ħ (far _ _ _ HMy.out (by omega))
 have HCz := ħ (far _ _ _ HCB.out (by omega))
 have HOMz := ħ ((HOMy.out.up hb5).tk htz twWork)
 have HOCz := ħ ((HOY.out.up hb5).tk htz twWork)
 have HYTZ : Hid (TKeep 27 Y Z) := ħ ((TKeep.of_below hb5).trans htz)
 clear hZ far htz hO5 hM5 hb5 hX5 HIRy HWy HIy HRy HMy HCB HOMy HOY HXy
 refine wp_seq_k (fun K hK => ?_)
 have HK36 := ħ hK
 clear hK
 refine wp_seq_k (fun Kc hKc => ?_)
 have HKC := ħ hKc
 clear hKc
 refine wp_region_list ?_
 simp only [List.append_eq, List.append, List.cons_append, List.nil_append, List.toList_toArray]
 refine wpList_load_mid rfl 49 _ rfl gc 0 (by simp [Act.eval, Act.put]) [.int .i64 M.ki, .int .i64 M.fr, .int .i64 M.tt, .int .i64 M.di, .int .i64 M.b.au, .int .i64 M.b.n, .slice Qc.b.A Qc.b.n Qc.b.c, .int .i64 M.h.au, .int .i64 M.h.ro, .slice Qc.h.b.A Qc.h.b.n Qc.h.b.c, .slice Qc.h.p.A Qc.h.p.n Qc.h.p.c, .int .i64 M.c.h.au, .int .i64 M.c.h.ro, .slice Qc.c.h.b.A Qc.c.h.b.n Qc.c.h.b.c, .slice Qc.c.h.p.A Qc.c.h.p.n Qc.c.h.p.c, .int .i64 M.c.di, .slice Qc.c.s.A Qc.c.s.n Qc.c.s.c, .slice Qc.ds.A Qc.ds.n Qc.ds.c] _ HCz.out.rng Tryz.underlying49 (by rfl) (by kernel_rfl) ?_
 (try simp only [lz, List.toList_toArray])
 refine wpList_load_mid rfl 49 _ rfl gmm 0 (by simp [Act.eval, Act.put]) [.int .i64 M.ki, .int .i64 M.fr, .int .i64 M.tt, .int .i64 M.di, .int .i64 M.b.au, .int .i64 M.b.n, .slice Qm.b.A Qm.b.n Qm.b.c, .int .i64 M.h.au, .int .i64 M.h.ro, .slice Qm.h.b.A Qm.h.b.n Qm.h.b.c, .slice Qm.h.p.A Qm.h.p.n Qm.h.p.c, .int .i64 M.c.h.au, .int .i64 M.c.h.ro, .slice Qm.c.h.b.A Qm.c.h.b.n Qm.c.h.b.c, .slice Qm.c.h.p.A Qm.c.h.p.n Qm.c.h.p.c, .int .i64 M.c.di, .slice Qm.c.s.A Qm.c.s.n Qm.c.s.c, .slice Qm.ds.A Qm.ds.n Qm.ds.c] _ HMz.out.rng Tryz.underlying49 (by rfl) (by kernel_rfl) ?_
 (try simp only [lz, List.toList_toArray])
 refine wpList_plain rfl (fun K hK => ?_)
 go_simp
 refine (ref0_EqMessage Qc Qm M _ (HOCz.out.msg HML.out.big) (HOMz.out.msg HML.out.big)).mono ?_
 rintro e w6 ⟨rfl, hb6⟩
 dsimp only
 refine hK _ _ ?_
 clear hK K
 (try simp only [lz])
 refine wpList_plain rfl (fun K hK => ?_)
 go_simp
 refine hK _ _ ?_
 clear hK K
 (try simp only [lz])
 refine wpList_nil ?_
 show Kc _ _
 apply HKC.out
 clear HKC
 go_wp2_with fail
 show K _ _
 apply HK36.out
 clear HK36
 refine wp_region_list ?_
 simp only [List.append_eq, List.append, List.cons_append, List.nil_append, List.toList_toArray]
 refine wpList_load_mid rfl 49 _ rfl gc 0 (by simp [Act.eval, Act.put]) [.int .i64 M.ki, .int .i64 M.fr, .int .i64 M.tt, .int .i64 M.di, .int .i64 M.b.au, .int .i64 M.b.n, .slice Qc.b.A Qc.b.n Qc.b.c, .int .i64 M.h.au, .int .i64 M.h.ro, .slice Qc.h.b.A Qc.h.b.n Qc.h.b.c, .slice Qc.h.p.A Qc.h.p.n Qc.h.p.c, .int .i64 M.c.h.au, .int .i64 M.c.h.ro, .slice Qc.c.h.b.A Qc.c.h.b.n Qc.c.h.b.c, .slice Qc.c.h.p.A Qc.c.h.p.n Qc.c.h.p.c, .int .i64 M.c.di, .slice Qc.c.s.A Qc.c.s.n Qc.c.s.c, .slice Qc.ds.A Qc.ds.n Qc.ds.c] _ (HCz.out.up hb6).rng Tryz.underlying49 (by rfl) (by kernel_rfl) ?_
 (try simp only [lz, List.toList_toArray])
 refine wpList_plain rfl (fun K hK => ?_)
 go_simp
 refine hK _ _ ?_
 clear hK K
 (try simp only [lz])
 refine wp_world (fun U hU => ?_)
 obtain ⟨gM, hgM⟩ : ∃ g, g = w6.heap.size := ⟨_, rfl⟩
 rw [← hgM]
 have hMB : Blk U gM 49 [.int .i64 M.ki, .int .i64 M.fr, .int .i64 M.tt, .int .i64 M.di, .int .i64 M.b.au, .int .i64 M.b.n, .slice Qc.b.A Qc.b.n Qc.b.c, .int .i64 M.h.au, .int .i64 M.h.ro, .slice Qc.h.b.A Qc.h.b.n Qc.h.b.c, .slice Qc.h.p.A Qc.h.p.n Qc.h.p.c, .int .i64 M.c.h.au, .int .i64 M.c.h.ro, .slice Qc.c.h.b.A Qc.c.h.b.n Qc.c.h.b.c, .slice Qc.c.h.p.A Qc.c.h.p.n Qc.c.h.p.c, .int .i64 M.c.di, .slice Qc.c.s.A Qc.c.s.n Qc.c.s.c, .slice Qc.ds.A Qc.ds.n Qc.ds.c] := by rw [hU, hgM]; exact Blk.new w6 49 [.int .i64 M.ki, .int .i64 M.fr, .int .i64 M.tt, .int .i64 M.di, .int .i64 M.b.au, .int .i64 M.b.n, .slice Qc.b.A Qc.b.n Qc.b.c, .int .i64 M.h.au, .int .i64 M.h.ro, .slice Qc.h.b.A Qc.h.b.n Qc.h.b.c, .slice Qc.h.p.A Qc.h.p.n Qc.h.p.c, .int .i64 M.c.h.au, .int .i64 M.c.h.ro, .slice Qc.c.h.b.A Qc.c.h.b.n Qc.c.h.b.c, .slice Qc.c.h.p.A Qc.c.h.p.n Qc.c.h.p.c, .int .i64 M.c.di, .slice Qc.c.s.A Qc.c.s.n Qc.c.s.c, .slice Qc.ds.A Qc.ds.n Qc.ds.c]
 have hbU6 : Below w6.heap.size w6 U := by rw [hU]; exact bel_alloc (Below.refl _ _)
 have hbZU := bel_trans hb6 hbU6
 have hVYs0 := hVY.size
 have hgMZ : Z.heap.size ≤ gM := by rw [hgM]; exact hb6.size
 have hgMU : gM < U.heap.size := hMB.lt
 clear hU hgM hbU6
 obtain ⟨p, hp⟩ : ∃ p : Nat → Prop, p = fun k => k < V.heap.size ∨ (Y.heap.size ≤ k ∧ k ≠ gM) := ⟨_, rfl⟩
 have hrp : RowsP U p Qc := by
  have h0 : RowsP Y p Qc := (HOYr.out).prot (fun g h1 h2 => by rw [hp]; show ¬ (g < V.heap.size ∨ (Y.heap.size ≤ g ∧ g ≠ gM)); omega)
  exact (h0.tk HYTZ.out).keep (S := fun _ => False) (.of_below hbZU)
 have hMB' : U.heap[gM]? = some (.cells ([.int .i64 M.ki, .int .i64 M.fr, .int .i64 M.tt, .int .i64 M.di, .int .i64 M.b.au, .int .i64 M.b.n, .slice Qc.b.A Qc.b.n Qc.b.c, .int .i64 M.h.au, .int .i64 M.h.ro, .slice Qc.h.b.A Qc.h.b.n Qc.h.b.c, .slice Qc.h.p.A Qc.h.p.n Qc.h.p.c, .int .i64 M.c.h.au, .int .i64 M.c.h.ro, .slice Qc.c.h.b.A Qc.c.h.b.n Qc.c.h.b.c, .slice Qc.c.h.p.A Qc.c.h.p.n Qc.c.h.p.c, .int .i64 M.c.di, .slice Qc.c.s.A Qc.c.s.n Qc.c.s.c, .slice Qc.ds.A Qc.ds.n Qc.ds.c]).toArray 49 (0, 0)) := hMB
 have hpM : ¬ p gM := by rw [hp]; show ¬ (gM < V.heap.size ∨ (Y.heap.size ≤ gM ∧ gM ≠ gM)); omega
 have hrm : RowMP U p ⟨some ⟨gM, 0, none⟩, 1, 1⟩ := .inr ⟨gM, ([.int .i64 M.ki, .int .i64 M.fr, .int .i64 M.tt, .int .i64 M.di, .int .i64 M.b.au, .int .i64 M.b.n, .slice Qc.b.A Qc.b.n Qc.b.c, .int .i64 M.h.au, .int .i64 M.h.ro, .slice Qc.h.b.A Qc.h.b.n Qc.h.b.c, .slice Qc.h.p.A Qc.h.p.n Qc.h.p.c, .int .i64 M.c.h.au, .int .i64 M.c.h.ro, .slice Qc.c.h.b.A Qc.c.h.b.n Qc.c.h.b.c, .slice Qc.c.h.p.A Qc.c.h.p.n Qc.c.h.p.c, .int .i64 M.c.di, .slice Qc.c.s.A Qc.c.s.n Qc.c.s.c, .slice Qc.ds.A Qc.ds.n Qc.ds.c]).toArray, rfl, hpM, hMB', Nat.le_refl _, (show 1 ≤ maxLen by decide), rfl, fun j hj => by
  obtain rfl : j = 0 := by (have : j < 1 := hj); omega
  exact ⟨Qc, M, fun r u hu => (by rw [Nat.zero_mul]; exact hMB.box.2 (0 + r) u (by rw [Nat.zero_add]; exact hu)), hrp⟩⟩
 have HRM0 := ħ hrm
 clear hrm hrp hMB hMB' hpM
 refine wpList_plain rfl (fun K hK => ?_)
 go_simp
 refine (law0_MessagesP ⟨some ⟨gM, 0, none⟩, 1, 1⟩ p _ HRM0.out (show 1 ≤ 1000000 by decide)).mono ?_
 rintro e wm ⟨rfl, hpr, hks⟩
 dsimp only
 refine hK _ _ ?_
 clear hK K
 (try simp only [lz])
 have hP : Prot (fun k => k < V.heap.size ∨ Y.heap.size ≤ k) Z wm := ⟨hpr.os.trans hbZU.os, hpr.tape.trans hbZU.tape, hpr.output.trans hbZU.output, Nat.le_trans hbZU.size hpr.size, fun k hk hq => (hpr.block k (Nat.lt_of_lt_of_le hk hbZU.size) (by rw [hp]; rcases hq with hq | hq; exact .inl hq; exact .inr ⟨hq, by omega⟩)).trans (hbZU.block k hk)⟩
 have HP := ħ hP
 clear hp hpr hks HRM0 hbZU hb6 hgMZ hgMU hP
 refine wpList_nil ?_
 show K51 _ _
 apply HK51.out
 clear HK51
 dsimp only [stepEnd8, cAfter, cSnd, cFst, Tryz.f21, Option.getD]
 have hVZ : V.heap.size ≤ Z.heap.size := Nat.le_trans hVY.size hYZ
 have hVYs := hVY.size
 have hbwm : Below w.heap.size w wm := hbZ.trans (HP.out.below (Nat.le_trans hbV.size hVZ) (fun k hk => .inl (Nat.lt_of_lt_of_le hk hbV.size)))
 have hVm : Below V.heap.size Z wm := HP.out.below hVZ (fun k hk => .inl hk)
 have hTV : TKeep 27 V wm := tk_belB ((TKeep.of_below hVY).trans HYTZ.out) hVm
 have lim : ∀ g, g < V.heap.size → (g < V.heap.size ∨ Y.heap.size ≤ g) := fun g h => .inl h
 have hgml : gx < V.heap.size := by omega
 have HWm := ħ (HWz.out.prot HP.out (.inl (by omega)))
 have HIm := ħ (HIz.out.prot HP.out (.inl (by omega)))
 have HRm := ħ (HRz.out.prot HP.out (.inl (by omega)))
 have HXm := ħ (HXz.out.prot HP.out (.inl (by omega)))
 have HOm := ħ (HOx.out.prot HP.out (fun q h1 _ => .inr h1))
 have HMm := ħ (HMx.out.prot HP.out (fun q h1 _ => .inr h1))
 have hYm : Y.heap.size ≤ wm.heap.size := Nat.le_trans hYZ HP.out.size
 have hTVH := ħ hTV
 clear hVm hTV HWz HIz HRz HXz HOx HMx HMz HCz HOMz HOCz HYTZ hbZ hbY HYZ HOW1 HOYr
 go_upto_region 53 with fail
 rename_i K9 hK9
 refine wp_world (fun W hW => ?_)
 obtain ⟨gs2, hgs2⟩ : ∃ g, g = wm.heap.size := ⟨_, rfl⟩
 rw [← hgs2]
 have hal : Below wm.heap.size wm W := by rw [hW]; exact bel_alloc (Below.refl _ _)
 have HQm : Hid (Blk W gs2 70 [.int .i64 0, .int .i64 0, .int .i64 0, .slice none 0 0, .int .i64 0, .int .i64 0, .slice none 0 0, .slice none 0 0, .slice none 0 0, .slice none 0 0]) := ħ (by rw [hW, hgs2]; exact Blk.new wm 70 [.int .i64 0, .int .i64 0, .int .i64 0, .slice none 0 0, .int .i64 0, .int .i64 0, .slice none 0 0, .slice none 0 0, .slice none 0 0, .slice none 0 0])
 have HWm := ħ (HWm.out.up hal)
 have HIm := ħ (HIm.out.up hal)
 have HRm := ħ (HRm.out.up hal)
 have HXm := ħ (HXm.out.up hal)
 have HOm := ħ (HOm.out.up hal)
 have HMm := ħ (HMm.out.up hal)
 have hbwm := bel_trans hbwm hal
 have hgs3 : Y.heap.size ≤ gs2 := by rw [hgs2]; exact hYm
 have hYm := Nat.le_trans hYm hal.size
 have hTVH := ħ (hTVH.out.trans (TKeep.of_below hal))
 clear hW hgs2 hal
 obtain rfl := HL0.out
 obtain rfl := HD0.out
 have hmsL : BigMs [] := ⟨Nat.le_trans HL.out.1 (by decide), fun x hx => (HL.out.2 x hx).big⟩
 obtain ⟨A1, c1, e1, hr1, _⟩ := OwnMs.msgs HMm.out hmsL
 injection e1 with ea1 eb1 ec1
 rw [← ea1, ← eb1] at hr1
 have hln : ln ≤ 1000000 := by rw [eb1]; exact HL.out.1
 have hrmm : RowM W Y.heap.size ⟨lA, ln, lc⟩ := by
  obtain ⟨ls, h9⟩ := HMm.out
  exact msgs_rowM (s := ⟨lA, ln, lc⟩) h9 HL.out.2
 have HR1 := ħ hr1
 have HRMM := ħ hrmm
 clear ea1 eb1 ec1 hr1 hrmm
 have hR8 := HOm.out.work HBG.out
 have hwV := hbV.size
 exact step_tail w W Y.heap.size gw gr gi gs2 gx Pw Pi nilP Px D zeroWD 1 none lA 0 0 ln lc hK9 hbwm (by omega) hYm (by omega) (by omega) (by omega) (by omega) (by omega) (fun Y' hY' => ⟨HWR.out.up (hbwm.trans (hY'.mono (by omega))), ((HIO.out.tk (tk_belB hTVH.out (hY'.mono hVYs)) twWork).work HBD.out), HWm.out.below hY' (by omega), HIm.out.below hY' (by omega), HRm.out.below hY' (by omega)⟩) (fun Y' hY' => ⟨zeroW_R _, HQm.out.up hY'⟩) (fun h => absurd h (by decide)) (fun Y' hY' a0 a1 a2 a3 a4 a5 a6 a7 a8 => by rw [if_neg (by decide)]; exact HWR.out.up (belw_sets9 (hbwm.trans (hY'.mono (by omega))) (by omega) a0 a1 a2 a3 a4 a5 a6 a7 a8)) HXm.out HOm.out HBG.out (by have e1 := hR8.op.1; rw [← e1]; exact HSM.out.1) (by have e1 := hR8.wa.1; rw [← e1]; exact HSM.out.2.1) (by have e1 := hR8.he.1; rw [← e1]; exact HSM.out.2.2.1) (by have e1 := hR8.re.1; rw [← e1]; exact HSM.out.2.2.2.1) HSM.out.2.2.2.2.1 HSM.out.2.2.2.2.2 (fun Y' hY' => ref0_EqMessages lA ln lc none 0 0 [] Y' (HR1.out.up hY') (MsgsR.nil _)) (fun Y' hY' hk => (law0_MessagesS ⟨lA, ln, lc⟩ Y.heap.size Y' (HRMM.out.keep hk (by unfold SWork; decide)) hln (Nat.le_trans hYm hY'.size)).mono fun e w' h => ⟨h.1, h.2.1⟩)
end Go.Proofs.YtgfakefcmbpboaaGreat
