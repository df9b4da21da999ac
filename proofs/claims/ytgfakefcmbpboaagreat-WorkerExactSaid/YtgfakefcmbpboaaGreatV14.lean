/- Part 14 of what WorkerExact leans on. No conditions. -/
import Derived.Test.YtgfakefcmbpboaaGreatV13
namespace Go.Proofs.YtgfakefcmbpboaaGreat
set_option linter.all false
set_option maxRecDepth 100000
set_option maxHeartbeats 64000000
open _root_.Go.Proofs.Tryz Go.RowKit
open Tok
def Bh (M:aY) (id too:Int):aY:={M with fr:=id,tt:=too}
theorem dS.say {w:World} {B:Nat} {P M} {id too:Int} (h:dS w B P M):dS w B P (Bh M id too):=⟨h.b,h.h1,h.h2,h.c1,h.c2,h.c3,h.ds⟩
def eU (w w':World):Prop:=∀g t cs,t≠49→Blk w g t cs→Blk w' g t cs
theorem eU.trans {a b c:World} (h:eU a b) (k:eU b c):eU a c:=fun g t cs ht hb=>k g t cs ht (h g t cs ht hb)
theorem eU.of_below {w w':World} (h:Below w w w'):eU w w':=fun g t cs _ hb=>hb.up h
theorem eU.of_grown {w w':World} {B n:Nat} {v:Value} {xs:List Value} (hv:w.ownsRow B 49 18 v n xs) (hg:w.grownBy w' v.ownBlock):eU w w':=fun g t cs ht hb=>hb.of_heap (hg.block g hb.lt (fun e=>by
 obtain ⟨_,c2,e2⟩:=gX hv g e.symm;have hb':w.heap[g]? =some (.cells cs.toArray t (0,0)):=hb;rw [hb'] at e2;injection e2 with e2;injection e2 with _ e3 _;exact ht e3))
theorem xU (g B:Nat) (id too:Int) (k1 k2 k3 k4 k5 k6 k7 k8:Value) (uA:Option Addr) (un uc:Nat) (ps:List bQ) (l:List aY) (P:bQ) (M:aY) (w:World) (hg:Blk w g 142 [id,k1,k2,k3,k4,k5,k6,k7,k8,.slice uA un uc]) (hgB:g<B) (hB:B≤w.heap.size) (ho:aP cT w B (.slice uA un uc) ps l) (hl:l.length≤800000000) (hm:dS w B P M) :
 Calls prog 133 #[.pointer (some ⟨g,0,none⟩),too,M18 P M] w fun e w'=>∃X A n c,e=.returned (.tuple #[])∧w'=X.setCell ⟨g,9,none⟩ (.slice A n c)∧Below B w X∧eU w X∧aP cT X B (.slice A n c) (ps ++ [P]) (l ++ [Bh M id too]):=by
 obtain ⟨⟨bA,bn,bc⟩,⟨⟨xA,xn,xc⟩,⟨yA,yn,yc⟩⟩,⟨⟨⟨cA,cn,cc⟩,⟨dA,dn,dc⟩⟩,⟨sA,sn,sc⟩⟩,⟨eA,en,ec⟩⟩:=P;have HG:=ħ hg;have HO:=ħ ho;have HM:=ħ hm;have hfg:=hg.frozen;have hgl:=hg.lt;obtain ⟨a_0,a_1,a_2,a_3,a_4,a_5,a_6,a_7,a_8,a_9⟩:=gO hg.box;clear hg ho hm;show Calls prog 133 #[.pointer (some ⟨g,0,none⟩),too,.agg #[M.ki,M.fr,M.tt,M.di,M.b.au,M.b.n,.slice bA bn bc,M.h.au,M.h.ro,.slice xA xn xc,.slice yA yn yc,M.c.h.au,M.c.h.ro,.slice cA cn cc,.slice dA dn dc,M.c.di,.slice sA sn sc,.slice eA en ec]] w _;go_enter func133,ntmps133
 go_upto_region 2 with fail
 have hX:Blk (w.alloc (.cells #[M.ki,id,too,M.di,M.b.au,M.b.n,.slice bA bn bc,M.h.au,M.h.ro,.slice xA xn xc,.slice yA yn yc,M.c.h.au,M.c.h.ro,.slice cA cn cc,.slice dA dn dc,M.c.di,.slice sA sn sc,.slice eA en ec] 49)) w.heap.size 49 [M.ki,id,too,M.di,M.b.au,M.b.n,.slice bA bn bc,M.h.au,M.h.ro,.slice xA xn xc,.slice yA yn yc,M.c.h.au,M.c.h.ro,.slice cA cn cc,.slice dA dn dc,M.c.di,.slice sA sn sc,.slice eA en ec]:=Blk.new w 49 [M.ki,id,too,M.di,M.b.au,M.b.n,.slice bA bn bc,M.h.au,M.h.ro,.slice xA xn xc,.slice yA yn yc,M.c.h.au,M.c.h.ro,.slice cA cn cc,.slice dA dn dc,M.c.di,.slice sA sn sc,.slice eA en ec];have hbX:Below w w (w.alloc (.cells #[M.ki,id,too,M.di,M.b.au,M.b.n,.slice bA bn bc,M.h.au,M.h.ro,.slice xA xn xc,.slice yA yn yc,M.c.h.au,M.c.h.ro,.slice cA cn cc,.slice dA dn dc,M.c.di,.slice sA sn sc,.slice eA en ec] 49)):=aI;generalize hYe:(w.alloc (.cells #[M.ki,id,too,M.di,M.b.au,M.b.n,.slice bA bn bc,M.h.au,M.h.ro,.slice xA xn xc,.slice yA yn yc,M.c.h.au,M.c.h.ro,.slice cA cn cc,.slice dA dn dc,M.c.di,.slice sA sn sc,.slice eA en ec] 49))=Y at *;clear hYe;have hG:=HG.out.up hbX;have hfY:=hG.frozen;have hgY:=hG.lt;have hxY:=hX.lt;refine nm w.heap.size fun N hN=>?_;rw [←hN] at hX hxY ⊢;have hgN:g<N:=by omega
 have hoN:∀q,(Value.slice uA un uc).ownBlock=some q→q<N:=fun q hq=>by rw [hN];exact (bV HO.out.1 q hq).2
 clear a_0 a_1 a_2 a_3 a_4 a_5 a_6 a_7 a_8 a_9 hfg;have HGY:=ħ hG;have HXY:=ħ hX;have HOY:=ħ (HO.out.up hbX);have HMY:=ħ (HM.out.up hbX);have HSZ:Hid (B≤Y.heap.size):=ħ (Nat.le_trans hB hbX.size);obtain ⟨S,hS⟩:∃S:World→Prop,S=fun Z=>Blk Z N 49 [M.ki,id,too,M.di,M.b.au,M.b.n,.slice bA bn bc,M.h.au,M.h.ro,.slice xA xn xc,.slice yA yn yc,M.c.h.au,M.c.h.ro,.slice cA cn cc,.slice dA dn dc,M.c.di,.slice sA sn sc,.slice eA en ec]:=⟨_,rfl⟩;have hS0:S Y.drew:=by rw [hS];exact hX.up (aM (Below.refl _ _))
 have hS1:∀Z,S Z→Z.rangeAt N 0 [M.ki,id,too,M.di,M.b.au,M.b.n,.slice bA bn bc,M.h.au,M.h.ro,.slice xA xn xc,.slice yA yn yc,M.c.h.au,M.c.h.ro,.slice cA cn cc,.slice dA dn dc,M.c.di,.slice sA sn sc,.slice eA en ec]:=fun Z h=>by rw [hS] at h;exact fun j u hu=>by rw [Nat.zero_add];exact h.box.2 j u hu
 have hS2:∀Z,Below Y Y Z→S Z:=fun Z hZ=>by rw [hS];exact HXY.out.up hZ
 have hS3:∀Z Z',Below Y Y Z→Z.grownBy Z' (Value.slice uA un uc).ownBlock→S Z':=fun Z Z' hZ hg'=>by rw [hS];exact (HXY.out.up hZ).grown2 hg' (fun e=>by have:=hoN _ e;omega)
 have hS4:∀Z o u,S Z→S (Z.setCell ⟨g,o,none⟩ u):=fun Z o u hZ=>by rw [hS] at hZ ⊢;exact hZ.far (p:=⟨g,o,none⟩) (by show N≠g;omega) u
 have hc9:∀Z,Below Y Y Z→Z.cell? ⟨g,9,none⟩=some (.slice uA un uc)∧g<Z.heap.size:=fun Z hZ=>⟨(HGY.out.up hZ).box.2 9 _ rfl,(HGY.out.up hZ).lt⟩;clear hG hX hS;refine wp_region_held_drew (S:=S) y8 hS0 (fun hHeld=>?_);have hbd:=bdr Y;generalize Y.drew=Z at *
 (refine bW 0 (some 14) (v:=?_) rfl rfl ?_ ?_;rotate_left;(focus (intro wq hSw;(try dsimp only at hSw);go_simp;all_goals (with_reducible rfl)));simp only [lz])
 (refine bW 1 (some 15) (v:=?_) rfl rfl ?_ ?_;rotate_left;(focus (intro wq hSw;(try dsimp only at hSw);go_simp;all_goals (with_reducible rfl)));simp only [lz])
 (refine bW 2 (some 16) (v:=?_) rfl rfl ?_ ?_;rotate_left;(focus (intro wq hSw;(try dsimp only at hSw);go_simp;all_goals (with_reducible rfl)));simp only [lz])
 (refine bW 3 (some 17) (v:=?_) rfl rfl ?_ ?_;rotate_left;(focus (intro wq hSw;(try dsimp only at hSw);go_simp;all_goals (with_reducible rfl)));simp only [lz])
 refine ld 5 19 hS1 underlying49 ?_;refine ry2 4 6 (fun K hK=>?_) fun K hK=>?_
 · skip
   obtain ⟨q9,qg⟩:=hc9 _ (hbd);go_simp;refine hK.out _ _ (hS2 _ (hbd)) (fun hHeld=>?_);clear hK K q9 qg;refine sp ?_;refine ry 6 fun K hK=>?_;go_simp;refine hk hK (hS2 _ (aB hbd)) fun hHeld=>?_;clear hK K;have HBX:=ħ (bX.new Z [M.ki,id,too,M.di,M.b.au,M.b.n,.slice bA bn bc,M.h.au,M.h.ro,.slice xA xn xc,.slice yA yn yc,M.c.h.au,M.c.h.ro,.slice cA cn cc,.slice dA dn dc,M.c.di,.slice sA sn sc,.slice eA en ec] 49);have hbZ:Below Y Y (Z.alloc (.cells #[M.ki,id,too,M.di,M.b.au,M.b.n,.slice bA bn bc,M.h.au,M.h.ro,.slice xA xn xc,.slice yA yn yc,M.c.h.au,M.c.h.ro,.slice cA cn cc,.slice dA dn dc,M.c.di,.slice sA sn sc,.slice eA en ec] 49)):=aB hbd;refine ry 7 fun K hK=>?_;refine uF rfl (.tmp 18) (.tmp 20) rfl rfl B (.slice uA un uc) ps l y9 (HOY.out.up hbZ) Z.heap.size (Bh M id too) ⟨⟨bA,bn,bc⟩,⟨⟨xA,xn,xc⟩,⟨yA,yn,yc⟩⟩,⟨⟨⟨cA,cn,cc⟩,⟨dA,dn,dc⟩⟩,⟨sA,sn,sc⟩⟩,⟨eA,en,ec⟩⟩ y9 HBX.out ((HMY.out.up hbZ).say) hl (Nat.le_trans HSZ.out hbZ.size) ?_;intro v5 w5 hown5 hg5 hb5;refine hk hK (hS3 _ _ hbZ hg5) fun hHeld=>?_;clear hK K;obtain ⟨A5,c5,e5,_⟩:=hown5.read;refine mn ((l ++ [Bh M id too]).length) fun n5 hn5=>?_;rw [hn5] at e5;clear hn5;subst e5;have hk5:eU Y w5:=(eU.of_below hbZ).trans (eU.of_grown (HOY.out.up hbZ).1 hg5);have hG5:=hk5 _ _ _ y5 HGY.out;have hs5:=hS3 _ _ hbZ hg5
   (refine bW 8 (some 22) (v:=?_) rfl rfl ?_ ?_;rotate_left;(focus (intro wq hSw;(try dsimp only at hSw);go_simp;all_goals (with_reducible rfl)));simp only [lz])
   (refine bW 9 (some 23) (v:=?_) rfl rfl ?_ ?_;rotate_left;(focus (intro wq hSw;(try dsimp only at hSw);go_simp;all_goals (with_reducible rfl)));simp only [lz])
   refine ry 10 fun K hK=>?_;have hf5:=hG5.frozen;have hl5:=hG5.lt;have q9:=hG5.box.2 9 _ rfl;go_simp;refine hk hK (hS4 _ _ _ hs5) fun hHeld=>?_;clear hK K;refine wz ?_
   go_end0
   exact ⟨w5,A5,n5,c5,rfl,rfl,Below.trans (hbX.mono hB) (Below.trans (hbZ.mono HSZ.out) hb5),(eU.of_below hbX).trans hk5,hown5⟩
 · skip
   go_simp;refine hk hK (hS2 _ (aB hbd)) fun hHeld=>?_;clear hK K;refine ry 4 fun K hK=>?_;obtain ⟨q9,qg⟩:=hc9 (Z.alloc (.cells #[M.ki,id,too,M.di,M.b.au,M.b.n,.slice bA bn bc,M.h.au,M.h.ro,.slice xA xn xc,.slice yA yn yc,M.c.h.au,M.c.h.ro,.slice cA cn cc,.slice dA dn dc,M.c.di,.slice sA sn sc,.slice eA en ec] 49)) (aB hbd);go_simp;refine hK.out _ _ (hS2 (Z.alloc (.cells #[M.ki,id,too,M.di,M.b.au,M.b.n,.slice bA bn bc,M.h.au,M.h.ro,.slice xA xn xc,.slice yA yn yc,M.c.h.au,M.c.h.ro,.slice cA cn cc,.slice dA dn dc,M.c.di,.slice sA sn sc,.slice eA en ec] 49)) (aB hbd)) (fun hHeld=>?_);clear hK K q9 qg;refine sp ?_;have HBX:=ħ (bX.new Z [M.ki,id,too,M.di,M.b.au,M.b.n,.slice bA bn bc,M.h.au,M.h.ro,.slice xA xn xc,.slice yA yn yc,M.c.h.au,M.c.h.ro,.slice cA cn cc,.slice dA dn dc,M.c.di,.slice sA sn sc,.slice eA en ec] 49);have hbZ:Below Y Y (Z.alloc (.cells #[M.ki,id,too,M.di,M.b.au,M.b.n,.slice bA bn bc,M.h.au,M.h.ro,.slice xA xn xc,.slice yA yn yc,M.c.h.au,M.c.h.ro,.slice cA cn cc,.slice dA dn dc,M.c.di,.slice sA sn sc,.slice eA en ec] 49)):=aB hbd;refine ry 7 fun K hK=>?_;refine uF rfl (.tmp 18) (.tmp 20) rfl rfl B (.slice uA un uc) ps l y9 (HOY.out.up hbZ) Z.heap.size (Bh M id too) ⟨⟨bA,bn,bc⟩,⟨⟨xA,xn,xc⟩,⟨yA,yn,yc⟩⟩,⟨⟨⟨cA,cn,cc⟩,⟨dA,dn,dc⟩⟩,⟨sA,sn,sc⟩⟩,⟨eA,en,ec⟩⟩ y9 HBX.out ((HMY.out.up hbZ).say) hl (Nat.le_trans HSZ.out hbZ.size) ?_;intro v5 w5 hown5 hg5 hb5;refine hk hK (hS3 _ _ hbZ hg5) fun hHeld=>?_;clear hK K;obtain ⟨A5,c5,e5,_⟩:=hown5.read;refine mn ((l ++ [Bh M id too]).length) fun n5 hn5=>?_;rw [hn5] at e5;clear hn5;subst e5;have hk5:eU Y w5:=(eU.of_below hbZ).trans (eU.of_grown (HOY.out.up hbZ).1 hg5);have hG5:=hk5 _ _ _ y5 HGY.out;have hs5:=hS3 _ _ hbZ hg5
   (refine bW 8 (some 22) (v:=?_) rfl rfl ?_ ?_;rotate_left;(focus (intro wq hSw;(try dsimp only at hSw);go_simp;all_goals (with_reducible rfl)));simp only [lz])
   (refine bW 9 (some 23) (v:=?_) rfl rfl ?_ ?_;rotate_left;(focus (intro wq hSw;(try dsimp only at hSw);go_simp;all_goals (with_reducible rfl)));simp only [lz])
   refine ry 10 fun K hK=>?_;have hf5:=hG5.frozen;have hl5:=hG5.lt;have q9:=hG5.box.2 9 _ rfl;go_simp;refine hk hK (hS4 _ _ _ hs5) fun hHeld=>?_;clear hK K;refine wz ?_
   go_end0
   exact ⟨w5,A5,n5,c5,rfl,rfl,Below.trans (hbX.mono hB) (Below.trans (hbZ.mono HSZ.out) hb5),(eU.of_below hbX).trans hk5,hown5⟩
structure But (B g:Nat) (w w':World):Prop where
 os:w'.os=w.os
 tape:w'.tape=w.tape
 output:w'.output=w.output
 size:w.heap.size≤w'.heap.size
 block:∀k,k<B→k≠g→w'.heap[k]? =w.heap[k]?
theorem But.refl (B g:Nat) (w:World):But B g w w:=⟨rfl,rfl,rfl,Nat.le_refl _,fun _ _ _=>rfl⟩
theorem But.trans {B g:Nat} {a b c:World} (h:But B g a b) (k:But B g b c):But B g a c:=⟨k.os.trans h.os,k.tape.trans h.tape,k.output.trans h.output,Nat.le_trans h.size k.size,fun i h1 h2=>(k.block i h1 h2).trans (h.block i h1 h2)⟩
theorem But.of_below {B g:Nat} {w w':World} (h:Below B w w'):But B g w w':=⟨h.os,h.tape,h.output,h.size,fun k hk _=>h.block k hk⟩
theorem But.setg {B g o:Nat} {w w':World} {u:Value} (h:But B g w w'):But B g w (w'.setCell ⟨g,o,none⟩ u):=⟨h.os,h.tape,h.output,by simpa [World.setCell] using h.size,fun k hk hne=>(Below.heap_setCell _ _ _ _ hne).trans (h.block k hk hne)⟩
theorem But.below {B g:Nat} {w w':World} (h:But B g w w') (hg:g≤B):Below g w w':=⟨h.os,h.tape,h.output,h.size,fun k hk=>h.block k y2 y2⟩
def uI (id d:Int) (b:bY) (k:Int):aY:=⟨1,id,k,d,b,⟨0,0,[],[]⟩,⟨⟨0,0,[],[]⟩,0,[]⟩,[]⟩
noncomputable def dF (id d:Int) (b:bY) (nt:List Int):Nat→List aY
 | 0=>[]
 | k+1=>dF id d b nt k ++ if ((k:Int)+1≠id∧cQ nt ((k:Int)+1)=false) then [uI id d b ((k:Int)+1)] else []
theorem mI (id d:Int) (b:bY) (nt:List Int):∀k,(dF id d b nt k).length≤k
 | 0=>Nat.le_refl _
 | k+1=>by
  have:=mI id d b nt k;unfold dF;rw [List.length_append];split<;>simp<;>omega
theorem AH {id d:Int} {b:bY} {nt:List Int} (hb:b.tx.length≤800000000):∀k,∀x∈dF id d b nt k,EK x
 | 0,x,h=>by simp [dF] at h
 | k+1,x,h=>by
  unfold dF at h;rw [List.mem_append] at h;rcases h with h|h
  · exact AH hb k x h
  · split at h
    · simp at h;subst h;exact ⟨hb,by simp [uI],by simp [uI],by simp [uI],by simp [uI],by simp [uI],by simp [uI]⟩
    · cases h
def EJ (g B:Nat) (id nodes d:Int) (k2 k3 k4 k5 k6 k7 k8:Value) (b:bY) (bA nA:Option Addr) (bn bc nn nc:Nat) (nt:List Int) (l:List aY) (w:World) (k:Nat) (wr:World):Prop:=
 ∃A n c ps,Blk wr g 142 [id,nodes,k2,k3,k4,k5,k6,k7,k8,.slice A n c]∧Blk wr w.heap.size 43 [b.au,b.n,.slice bA bn bc]∧aP cT wr B (.slice A n c) ps (l ++ dF id d b nt k)∧But B g w wr
def DP (g B:Nat) (id nodes d:Int) (k2 k3 k4 k5 k6 k7 k8:Value) (b:bY) (bA nA:Option Addr) (bn bc nn nc:Nat) (nt:List Int) (l:List aY) (w:World) (a':Act) (w':World):Prop:=
 ∃(k:Nat) (u4 u5 u7 u9 nN lV lW kK kL kM kN lX kO kP kQ kR kS kT kU kV kX kY lB lC lD lE lF lH lI lJ lK mS:Value),a'={tmps:=#[.pointer (some ⟨g,0,none⟩),d,.agg #[b.au,b.n,.slice bA bn bc],.slice nA nn nc,u4,u5,.pointer (some ⟨w,0,none⟩),u7,.int .i64 ((k:Int)+1),u9,nN,lV,lW,kK,kL,kM,kN,lX,kO,kP,kQ,kR,kS,kT,kU,kV,kX,kY,lB,lC,lD,lE,lF,lH,lI,lJ,lK,mS],defers:=[]}∧(k:Int)≤nodes∧EJ g B id nodes d k2 k3 k4 k5 k6 k7 k8 b bA nA bn bc nn nc nt l w k w'
theorem DP.mk {g B:Nat} {id nodes d:Int} {k2 k3 k4 k5 k6 k7 k8:Value} {b:bY} {bA nA:Option Addr} {bn bc nn nc:Nat} {nt:List Int} {l:List aY} {w:World} {ix:Int} {k:Nat} {u4 u5 u7 u9 nN lV lW kK kL kM kN lX kO kP kQ kR kS kT kU kV kX kY lB lC lD lE lF lH lI lJ lK mS:Value} {w':World} (hk:(k:Int)≤nodes) (h:EJ g B id nodes d k2 k3 k4 k5 k6 k7 k8 b bA nA bn bc nn nc nt l w k w') (hix:ix=(k:Int)+1) :
 DP g B id nodes d k2 k3 k4 k5 k6 k7 k8 b bA nA bn bc nn nc nt l w {tmps:=#[.pointer (some ⟨g,0,none⟩),d,.agg #[b.au,b.n,.slice bA bn bc],.slice nA nn nc,u4,u5,.pointer (some ⟨w,0,none⟩),u7,ix,u9,nN,lV,lW,kK,kL,kM,kN,lX,kO,kP,kQ,kR,kS,kT,kU,kV,kX,kY,lB,lC,lD,lE,lF,lH,lI,lJ,lK,mS],defers:=[]} w':=by
 subst hix;exact ⟨k,_,_,_,_,_,_,_,_,_,_,_,_,_,_,_,_,_,_,_,_,_,_,_,_,_,_,_,_,_,_,_,_,rfl,hk,h⟩
theorem Bo (g B:Nat) (id nodes d:Int) (k2 k3 k4 k5 k6 k7 k8:Value) (b:bY) (bA nA uA:Option Addr) (bn bc nn nc un uc:Nat) (nt:List Int) (ps:List bQ) (l:List aY) (w:World) (hg:Blk w g 142 [id,nodes,k2,k3,k4,k5,k6,k7,k8,.slice uA un uc]) (hgB:g<B) (hB:B≤w.heap.size) (ho:aP cT w B (.slice uA un uc) ps l) (hl:l.length≤700000000) (hn1:1≤nodes) (hn16:nodes≤16) (hbn:bn≤800000000)
 (hb:∀X,But B g w X→bZ X bA bn b.tx) (hnt:∀X,But B g w X→aL X nA nn nt) :
 Calls prog 123 #[.pointer (some ⟨g,0,none⟩),d,.agg #[b.au,b.n,.slice bA bn bc],.slice nA nn nc] w fun e w'=>∃A n c ps',e=.returned (.tuple #[])∧But B g w w'∧Blk w' g 142 [id,nodes,k2,k3,k4,k5,k6,k7,k8,.slice A n c]∧aP cT w' B (.slice A n c) ps' (l ++ dF id d b nt nodes.toNat):=by
 have HG:=ħ hg;have HO:=ħ ho;have HB:=ħ hb;have HNT:=ħ hnt;have hgl:=hg.lt;have HBN:Hid (b.tx.length=bn):=ħ (hb w (But.refl _ _ _)).1;clear hg ho hb hnt;go_enter func123,ntmps123
 go_wp2_with fail
 have hb0:Below w w (w.alloc (.cells #[b.au,b.n,.slice bA bn bc] 43)):=aB (Below.refl _ _);have h0:EJ g B id nodes d k2 k3 k4 k5 k6 k7 k8 b bA nA bn bc nn nc nt l w 0 (w.alloc (.cells #[b.au,b.n,.slice bA bn bc] 43)):=⟨uA,un,uc,ps,HG.out.up hb0,Blk.new w 43 [b.au,b.n,.slice bA bn bc],by simpa [dF] using HO.out.up hb0,But.of_below (hb0.mono hB)⟩;have H0:=ħ h0;clear h0;refine uZ 0 (DP g B id nodes d k2 k3 k4 k5 k6 k7 k8 b bA nA bn bc nn nc nt l w) (fun a' _=>18-(intOf (a'.tmps.getD 8 undef)).toNat) rfl ?_ ?_
 · intro hpass;go_wp2_with fail
   rename_i K hK;apply wp_label;apply hK;exact hpass _ _ (DP.mk (k:=0) y2 H0.out y17)
 · clear H0 hb0;rintro a' w' ⟨k,u4,u5,u7,u9,nN,lV,lW,kK,kL,kM,kN,lX,kO,kP,kQ,kR,kS,kT,kU,kV,kX,kY,lB,lC,lD,lE,lF,lH,lI,lJ,lK,mS,rfl,hk,A,n,c,ps',hG,hX,hO,hBt⟩;have HGk:=ħ hG;have HXk:=ħ hX;have HOk:=ħ hO;have HBk:=ħ hBt;have hgk:=hG.lt;have hxk:=hX.lt;obtain ⟨a_0,a_1,a_2,a_3,a_4,a_5,a_6,a_7,a_8,a_9⟩:=gO hG.box;obtain ⟨b_0,b_1,b_2⟩:=bx3 hX.box;clear hG hX hO hBt;by_cases hlt:(k:Int)<nodes
   · have hgt:decide (nodes<(k:Int)+1)=false:=by simp;omega
     by_cases hid:(k:Int)+1=id
     · have hne:(((k:Int)+1) != id)=false:=by simp [hid]
       have H9:Hid (EJ g B id nodes d k2 k3 k4 k5 k6 k7 k8 b bA nA bn bc nn nc nt l w (k+1) w'):=ħ ⟨A,n,c,ps',HGk.out,HXk.out,by unfold dF;rw [if_neg (fun h=>h.1 hid),List.append_nil];exact HOk.out,HBk.out⟩;clear hid;go_wp2_with fail
       apply wp_goto;refine ⟨rfl,DP.mk (k:=k+1) y2 H9.out y2,?_⟩;simp [intOf];omega
     · have hne:(((k:Int)+1) != id)=true:=by simp [hid]
       refine mn (cQ nt ((k:Int)+1)) fun y hy=>?_;have HID:=ħ hid;have HY:=ħ hy;clear hid hy;cases y
       · have HEQ:Hid (dF id d b nt (k+1)=dF id d b nt k ++ [uI id d b ((k:Int)+1)]):=ħ (by rw [dF,if_pos ⟨HID.out,HY.out⟩])
         go_wp2_with (first
          | (go_at_call 132;refine (cD nA nn nc nt ((k:Int)+1) false _ (HNT.out _ HBk.out) HY.out).mono ?_;rintro e w6 ⟨rfl,hb6⟩;have hX6:=HXk.out.up hb6;have hx6:=hX6.lt;clear b_0 b_1 b_2;obtain ⟨b_0,b_1,b_2⟩:=bx3 hX6.box;have HX6:=ħ hX6;clear hX6)
          | (go_at_call 135;refine (tU b bA bn bc _ (HB.out _ (HBk.out.trans (But.of_below (hb6.mono (by have:=HBk.out.size;omega))))) hbn).mono ?_;rintro e w7 ⟨v7,rfl,ho7,hb7⟩;obtain ⟨A7,c7,rfl,-⟩:=ho7.txs y69;rw [HBN.out] at ho7 ⊢;have hb67:Below w'.heap.size w' w7:=aA hb6 hb7;have hM7:dS w7 B ⟨⟨A7,bn,c7⟩,⟨⟨none,0,0⟩,⟨none,0,0⟩⟩,⟨⟨⟨none,0,0⟩,⟨none,0,0⟩⟩,⟨none,0,0⟩⟩,⟨none,0,0⟩⟩ (⟨1,0,0,d,b,⟨0,0,[],[]⟩,⟨⟨0,0,[],[]⟩,0,[]⟩,[]⟩:aY):=⟨ho7.mono (by have:=HBk.out.size;have:=hb6.size;omega),aE.nil _ _,aE.nil _ _,aE.nil _ _,aE.nil _ _,aE.nil _ _,aE.nil _ _⟩;have HM7:=ħ hM7;have HB67:=ħ hb67;clear ho7 hM7 hb7 hb67)
          | (go_at_call 133;refine (xU g B id ((k:Int)+1) (.int .i64 nodes) k2 k3 k4 k5 k6 k7 k8 A n c ps' (l ++ dF id d b nt k) ⟨⟨A7,bn,c7⟩,⟨⟨none,0,0⟩,⟨none,0,0⟩⟩,⟨⟨⟨none,0,0⟩,⟨none,0,0⟩⟩,⟨none,0,0⟩⟩,⟨none,0,0⟩⟩ ⟨1,0,0,d,b,⟨0,0,[],[]⟩,⟨⟨0,0,[],[]⟩,0,[]⟩,[]⟩ _ (HGk.out.up HB67.out) hgB (Nat.le_trans hB (Nat.le_trans HBk.out.size HB67.out.size)) (HOk.out.up HB67.out) (by have:=mI id d b nt k;rw [List.length_append];omega) HM7.out).mono ?_;rintro e w8 ⟨X,A8,n8,c8,rfl,rfl,hbX,hkX,hoX⟩))
         have hkw:eU w' X:=(eU.of_below HB67.out).trans hkX;have H9:Hid (EJ g B id nodes d k2 k3 k4 k5 k6 k7 k8 b bA nA bn bc nn nc nt l w (k+1) (X.setCell ⟨g,9,none⟩ (.slice A8 n8 c8))):=ħ ⟨A8,n8,c8,ps' ++ [⟨⟨A7,bn,c7⟩,⟨⟨none,0,0⟩,⟨none,0,0⟩⟩,⟨⟨⟨none,0,0⟩,⟨none,0,0⟩⟩,⟨none,0,0⟩⟩,⟨none,0,0⟩⟩],(hkw _ _ _ y5 HGk.out).set_ 9 _,(hkw _ _ _ y5 HXk.out).far (p:=⟨g,9,none⟩) (by show w.heap.size≠g;omega) _,by rw [HEQ.out,← List.append_assoc];exact hoX.low hgB,((HBk.out.trans (But.of_below (HB67.out.mono (by have:=HBk.out.size;omega)))).trans (But.of_below hbX)).setg⟩;apply wp_goto;refine ⟨rfl,DP.mk (k:=k+1) y2 H9.out y2,?_⟩;simp [intOf];omega
       · have H9:Hid (∀X,Below w'.heap.size w' X→EJ g B id nodes d k2 k3 k4 k5 k6 k7 k8 b bA nA bn bc nn nc nt l w (k+1) X):=ħ (fun X hX=>⟨A,n,c,ps',HGk.out.up hX,HXk.out.up hX,by unfold dF;rw [if_neg (fun h=>by rw [HY.out] at h;cases h.2),List.append_nil];exact HOk.out.up hX,HBk.out.trans (But.of_below (hX.mono (by have:=HBk.out.size;omega)))⟩);go_wp2_with (go_at_call 132;refine (cD nA nn nc nt ((k:Int)+1) true _ (HNT.out _ HBk.out) HY.out).mono ?_;rintro e w6 ⟨rfl,hb6⟩)
         apply wp_goto;refine ⟨rfl,DP.mk (k:=k+1) y2 (H9.out _ hb6) y2,?_⟩;simp [intOf];omega
   · have hgt:decide (nodes<(k:Int)+1)=true:=by simp;omega
     have hkn:nodes.toNat=k:=by omega
     go_wp2_with fail
     simp only [Exit.jump];exact bodyPost_ret (v:=.tuple #[]) (by simp [results,results123,go_sem]) rfl ⟨A,n,c,ps',rfl,HBk.out,HGk.out,by rw [hkn];exact HOk.out⟩
end Go.Proofs.YtgfakefcmbpboaaGreat
