/- Part 45 of what WorkerExact leans on. No conditions. -/
import Derived.Test.YtgfakefcmbpboaaGreatV26
import Derived.Test.YtgfakefcmbpboaaGreatV40
namespace Go.Proofs.YtgfakefcmbpboaaGreat
set_option linter.all false
set_option maxRecDepth 100000
set_option maxHeartbeats 64000000
open _root_.Go.Proofs.Tryz Go.RowKit
open Tok
theorem aP.tkR {w w':World} {B:Nat} {v:Value} {ps:List bQ} {l:List aY} (h:aP cT w B v ps l) (hk:aC 70 w w'):aP cT w' B v ps l:=⟨aR h.1 hk y5,h.2.1,fun j hj=>let z:dS w B _ _:=h.2.2 j hj;(⟨aR z.b hk y5,aR z.h1 hk y5,aR z.h2 hk y5,aR z.c1 hk y5,aR z.c2 hk y5,aR z.c3 hk y5,aR z.ds hk y5⟩:dS w' B _ _)⟩
theorem Ce {l:List bI} {p:Nat} {x:bI} (hp:p≤l.length) (i:Nat):hth (bM l p x) i=if i<p then hth l i else if i=p then x else hth l (i-1):=by
 have hlt:(l.take p).length=p:=by rw [List.length_take];omega
 unfold bM hth;simp only [List.getD_eq_getElem?_getD];by_cases h1:i<p
 · rw [if_pos h1,List.getElem?_append_left y2,List.getElem?_take,if_pos h1]
 · rw [if_neg h1,List.getElem?_append_right y2,hlt];by_cases h2:i=p
   · rw [if_pos h2,h2,Nat.sub_self];rfl
   · rw [if_neg h2,show i-p=(i-p-1)+1 by omega,List.getElem?_cons_succ,List.getElem?_drop,show p+(i-p-1)=i-1 by omega]
theorem E6 {l:List bI} {d:Int} {i:Nat} (h:i<bB l d):(hth l i).di<d:=by
 have hl:bB l d≤l.length:=gD _ _
 have hm:=wR (fun x:bI=>ltI x.di d) l (hth l i) (by
  have e:hth l i=(l.take (bB l d)).getD i default:=by
   unfold hth;simp only [List.getD_eq_getElem?_getD,List.getElem?_take,if_pos h]
  rw [e];exact cB (by rw [List.length_take];show i<min (bB l d) _;omega))
 simpa [ltI] using hm
theorem AU {l:List bI} (hs:dQ l) {d:Int} (hk:dL l d=false) {i:Nat} (h:bB l d≤i) (hi:i<l.length):d<(hth l i).di:=by
 have h0:=sH (fun x:bI=>ltI x.di d) l (by exact Nat.lt_of_le_of_lt h hi)
 have h1:¬(hth l (bB l d)).di<d:=by
  intro g;have:ltI (hth l (bB l d)).di d=true:=by simpa [ltI] using g
  rw [show ltI (hth l (bB l d)).di d=false from h0] at this;cases this
 have h2:¬(hth l i).di=d:=fun e=>by have:=(tZ hs).2 ⟨i,hi,e⟩;rw [hk] at this;cases this
 rcases Nat.lt_or_ge (bB l d) i with g|g
 · have:=hs _ _ g hi;simp only [ltI,decide_eq_true_eq] at this;omega
 · have e:bB l d=i:=by omega
   rw [e] at h1;omega
theorem dQ.ins {l:List bI} (hs:dQ l) {d:Int} {b:bY} (hk:dL l d=false):dQ (bM l (bB l d) ⟨d,b⟩):=by
 have hp:bB l d≤l.length:=gD _ _;intro i j hij hj;rw [cP hp] at hj;rw [Ce hp,Ce hp];simp only [ltI,decide_eq_true_eq];by_cases h1:i<bB l d
 · rw [if_pos h1];have a1:=E6 h1;by_cases h2:j<bB l d
   · rw [if_pos h2];have:=hs i j hij y2;simpa [ltI] using this
   · rw [if_neg h2];by_cases h3:j=bB l d
     · rw [if_pos h3];exact a1
     · rw [if_neg h3];have:=AU hs hk (i:=j-1) y2 y2;omega
 · rw [if_neg h1];by_cases h2:i=bB l d
   · rw [if_pos h2,if_neg y2,if_neg y2];exact AU hs hk y2 y2
   · rw [if_neg h2,if_neg y2,if_neg y2];have:=hs (i-1) (j-1) y2 y2;simpa [ltI] using this
theorem E2 {l:List bI} (hs:dQ l) {d:Int} {b:bY} (hk:dL l d=false):dL (bM l (bB l d) ⟨d,b⟩) d=true:=by
 have hp:bB l d≤l.length:=gD _ _;refine (tZ (hs.ins hk)).2 ⟨bB l d,by rw [cP hp];omega,?_⟩;rw [Ce hp,if_neg y2,if_pos rfl]
theorem BS {l:List bI} {d:Int} (h:dL l d=true):decide (fC l d≥0)=true:=by unfold fC;rw [if_pos h];simp
theorem CZ {l:List bI} {d:Int} (h:dL l d=false):decide (fC l d≥0)=false:=by unfold fC;rw [if_neg (by rw [h];simp)];simp
theorem BF (P:aF) (D:aD) (Pm:bQ) (M:aY) (y:Int) (w:World) (h:bG w P D) (hs:dY D) (hp:eO w Pm M) (hz:dZ D=true) (hy:zJ D M=y) (hy0:y≠0) :
 Calls prog 49 #[P.val D,M18 Pm M] w fun e w'=>∃gs,e=.returned (.tuple #[.pointer (some ⟨gs,0,none⟩),y])∧Below w w w':=by
 obtain ⟨⟨bA,bn,bc⟩,⟨⟨xA,xn,xc⟩,⟨yA,yn,yc⟩⟩,⟨⟨⟨cA,cn,cd⟩,⟨dA,dn,dc⟩⟩,⟨sA,sn,sc⟩⟩,⟨zA,zn,zc⟩⟩:=Pm;obtain ⟨ki,fr,tt,di,b,hd,cc,ds⟩:=M;have HWK:=ħ h;have HMM:=ħ hp;have HS:=ħ hs;unfold zJ at hy;dsimp only at hy;rw [hz] at hy;refine mn (kI ⟨ki,fr,tt,di,b,hd,cc,ds⟩ D.nodes) fun yb hyb=>?_;rw [hyb] at hy;have HBY:=ħ hyb;have HY:=ħ hy;have HY0:=ħ hy0;clear h hp hyb hy hy0 hs hz;show Calls prog 49 #[.agg (cW D P),.agg (cN ki fr tt di b hd cc bA bn bc xA xn xc yA yn yc cA cn cd dA dn dc sA sn sc zA zn zc)] w _;go_enter func49,ntmps49
 go_upto_region 1 with fail
 refine aW (fun W hW=>?_);have HA0:Hid (Blk W w.heap.size 27 (cW D P)):=ħ y32;have HB0:Hid (Blk W (w.heap.size+1) 49 (cN ki fr tt di b hd cc bA bn bc xA xn xc yA yn yc cA cn cd dA dn dc sA sn sc zA zn zc)):=ħ (by rw [hW];exact Blk.new1 w 27 49 (cW D P) (cN ki fr tt di b hd cc bA bn bc xA xn xc yA yn yc cA cn cd dA dn dc sA sn sc zA zn zc));have hbW:Below w w W:=by rw [hW];exact aB (aB (Below.refl _ _))
 clear hW;have hql:=HA0.out.lt;have hqb:=HA0.out.box;obtain ⟨q0,q1,q2,q3,q4,q5,q6,q7,q8⟩:=bx9 hqb;clear hqb;go_upto_region 2 with (go_at_call 17;refine (bK P D _ (HWK.out.up hbW) HS.out).mono ?_;rintro e w1 ⟨⟨⟨oA2,on2,oc2⟩,⟨tA2,tn2,tc2⟩,⟨eA2,en2,ec2⟩,⟨rA2,rn2,rc2⟩⟩,he1,hO1,hb1⟩;simp only [aF.val] at he1;subst he1)
 clear q0 q1 q2 q3 q4 q5 q6 q7 q8 hql;refine aW (fun W2 hW2=>?_);have HG:Hid (Blk W2 w1.heap.size 70 (cU D oA2 on2 oc2 tA2 tn2 tc2 eA2 en2 ec2 rA2 rn2 rc2 none 0 0)):=ħ y45;have hb2:Below w1 w1 W2:=by rw [hW2];exact aB (Below.refl _ _)
 clear hW2;refine nm w1.heap.size fun gs hgs=>?_;refine nm (w.heap.size+1) fun gm hgm=>?_;refine nm w.heap.size fun gw hgw=>?_;have hE:(Value.pointer (some ⟨w,0,none⟩))=.pointer (some ⟨gw,0,none⟩):=by rw [hgw]
 have hz1:w.heap.size+2≤w1.heap.size:=by have:=(HB0.out.up hb1).lt;omega
 have HW0:Hid (Blk W2 gw 27 (cW D P)):=ħ y83;have HBM:Hid (Blk W2 gm 49 (cN ki fr tt di b hd cc bA bn bc xA xn xc yA yn yc cA cn cd dA dn dc sA sn sc zA zn zc)):=ħ y84;have HO2:=ħ ((hO1.mono (B':=w.heap.size) hbW.size).up hb2);have hb0:Below w w W2:=aA (aA hbW hb1) hb2;rw [←hgs] at HG ⊢;rw [←hgm]
 try simp only [hE]
 have hgmr:gm<gs:=by omega
 have hgwm:gw<gm:=by omega
 have hgww:w.heap.size≤gw:=by omega
 clear hgs hgm hgw hE HA0 HB0 hbW hb1 hb2 hO1 hz1;cases yb
 · obtain rfl:y=1:=by rw [←HY.out];simp
   refine wp_region_list ?_;simp only [List.append_eq,List.append,List.cons_append,List.nil_append,List.toList_toArray];refine lm HBM.out.rng underlying49 ?_;refine pl ?_;refine wpList_plain rfl (fun K hK=>?_);have r1:=HW0.out.box.2 1 _ rfl;go_simp;refine hK _ _ ?_;clear hK K;clear r1;refine sp ?_;refine wpList_plain rfl (fun K hK=>?_);go_simp;refine (nJ ⟨⟨bA,bn,bc⟩,⟨⟨xA,xn,xc⟩,⟨yA,yn,yc⟩⟩,⟨⟨⟨cA,cn,cd⟩,⟨dA,dn,dc⟩⟩,⟨sA,sn,sc⟩⟩,⟨zA,zn,zc⟩⟩ ⟨ki,fr,tt,di,b,hd,cc,ds⟩ D.nodes false _ (HMM.out.up hb0) HBY.out).mono ?_;rintro e w3 ⟨rfl,hb3⟩;dsimp only;refine hK _ _ ?_;clear hK K;refine sp ?_;have HW3:=ħ (HW0.out.up hb3);have HB3:=ħ (HBM.out.up hb3);have HG3:=ħ (HG.out.up hb3);have HO3:=ħ (HO2.out.up hb3);have hb03:=aA hb0 hb3;clear hb3 HW0 HBM HG HO2 hb0
   iterate 2 (refine pl ?_)
   refine sg ?_;refine sg ?_;refine sg ?_;refine sg ?_;refine sg ?_;refine pl ?_;refine wpList_nil ?_;rename_i Ka hKa;refine hKa _ _ ?_;clear hKa Ka;go_wp2_with fail
   exact bodyPost_ret (v:=.tuple #[.pointer (some ⟨gs,0,none⟩),.int .i64 1]) y24 rfl y96
 refine wp_region_list ?_;simp only [List.append_eq,List.append,List.cons_append,List.nil_append,List.toList_toArray];refine lm HBM.out.rng underlying49 ?_;refine pl ?_;refine wpList_plain rfl (fun K hK=>?_);have r1:=HW0.out.box.2 1 _ rfl;go_simp;refine hK _ _ ?_;clear hK K;clear r1;refine sp ?_;refine wpList_plain rfl (fun K hK=>?_);go_simp;refine (nJ ⟨⟨bA,bn,bc⟩,⟨⟨xA,xn,xc⟩,⟨yA,yn,yc⟩⟩,⟨⟨⟨cA,cn,cd⟩,⟨dA,dn,dc⟩⟩,⟨sA,sn,sc⟩⟩,⟨zA,zn,zc⟩⟩ ⟨ki,fr,tt,di,b,hd,cc,ds⟩ D.nodes true _ (HMM.out.up hb0) HBY.out).mono ?_;rintro e w3 ⟨rfl,hb3⟩;dsimp only;refine hK _ _ ?_;clear hK K;refine sp ?_;have HW3:=ħ (HW0.out.up hb3);have HB3:=ħ (HBM.out.up hb3);have HG3:=ħ (HG.out.up hb3);have HO3:=ħ (HO2.out.up hb3);have hb03:=aA hb0 hb3;clear hb3 HW0 HBM HG HO2 hb0
 iterate 2 (refine pl ?_)
 obtain ⟨yt,hd1⟩:∃yt,(tt != D.id)=yt:=⟨_,rfl⟩;refine pg ?_;refine tg fun K hK=>?_;have r2:=HB3.out.box.2 2 _ rfl;go_simp;refine hK _ _ ?_;clear hK K;clear r2;refine sp ?_;refine pg ?_;refine tg fun K hK=>?_;have r0:=HW3.out.box.2 0 _ rfl;go_simp;refine hK _ _ ?_;clear hK K;clear r0;refine sp ?_
 iterate 2 (first|refine pl ?_|refine pg ?_)
 refine wpList_nil ?_;rename_i Ka hKa;refine hKa _ _ ?_;clear hKa Ka;cases yt
 · have ht:tt=D.id:=by simpa using hd1
   have hk4:¬(ki=1∨ki=2∨ki=3∨ki=7):=fun g=>HY0.out (by rw [←HY.out,if_pos (by simp [ht]),if_pos g]);obtain rfl:y=10:=by rw [←HY.out,if_pos (by simp [ht]),if_neg hk4]
   have e1:(ki == 1)=false:=by simp;omega
   have e2:(ki == 2)=false:=by simp;omega
   have e3:(ki == 3)=false:=by simp;omega
   have e7:(ki == 7)=false:=by simp;omega
   have m0:=HB3.out.box.2 0 _ rfl;clear hk4;go_wp2_with fail
   exact bodyPost_ret (v:=.tuple #[.pointer (some ⟨gs,0,none⟩),.int .i64 10]) y24 rfl y96
 · have ht:¬tt=D.id:=by simpa using hd1
   obtain rfl:y=1:=by rw [←HY.out,if_neg (fun g=>ht g.2.2)]
   go_wp2_with fail
   exact bodyPost_ret (v:=.tuple #[.pointer (some ⟨gs,0,none⟩),.int .i64 1]) y24 rfl y96
theorem Cq (P:aF) (D:aD) (Pm:bQ) (M:aY) (w:World) (h:bG w P D) (hs:dY D) (hp:eO w Pm M) (hbn:Pm.b.n≤800000000) (hk:M.ki=1∨M.ki=3) (h4:pU M.ki) (hm:dZ D=true) (hb:kI M D.nodes=true) (ht:M.tt=D.id) :
 Calls prog 49 #[P.val D,M18 Pm M] w fun e w'=>∃gs P' A n c ps,e=.returned (.tuple #[.pointer (some ⟨gs,0,none⟩),z0])∧Blk w' gs 70 (cS (rS D M) P' A n c)∧aX w' w.heap.size P' (rS D M)∧aP cT w' w.heap.size (.slice A n c) ps (sK D M)∧w.heap.size≤gs∧Below w w w':=by
 obtain ⟨⟨bA,bn,bc⟩,⟨⟨xA,xn,xc⟩,⟨yA,yn,yc⟩⟩,⟨⟨⟨cA,cn,cd⟩,⟨dA,dn,dc⟩⟩,⟨sA,sn,sc⟩⟩,⟨zA,zn,zc⟩⟩:=Pm;obtain ⟨ki,fr,tt,di,b,hd,cc,ds⟩:=M;have HWK:=ħ h;have HMM:=ħ hp;have HK4:Hid (pU ki):=ħ h4;have HS:=ħ hs;dsimp only at hk ht hbn;have HBY:=ħ hb;have hd1:(tt != D.id)=false:=by simp [ht]
 have HM:=ħ (cX.1 hm);have HTX:Hid (bZ w bA bn b.tx):=ħ hp.tx;refine mn (dL D.he di) fun yh hyh=>?_;have HYH:=ħ hyh;have HSO:Hid (dQ D.he):=ħ (fD.1 HM.out.2.2.2.2.2.2.2.2.2.2.1).sorted;have hhe:D.he.length≤1024:=HM.out.2.2.2.2.2.2.2.1;have hD:rS D ⟨ki,fr,tt,di,b,hd,cc,ds⟩=if yh=false∧D.he.length<1024 then mL D di b else D:=by unfold rS;rw [hyh]
 have hL:sK D ⟨ki,fr,tt,di,b,hd,cc,ds⟩=if ki=1∧(yh=true∨D.he.length<1024) then [iO D.id fr di] else []:=by unfold sK;rw [hyh]
 rw [hD,hL];obtain ⟨D1,hD1⟩:∃z,(if yh=false∧D.he.length<1024 then mL D di b else D)=z:=⟨_,rfl⟩;obtain ⟨L1,hL1⟩:∃z,(if ki=1∧(yh=true∨D.he.length<1024) then [iO D.id fr di] else [])=z:=⟨_,rfl⟩;rw [hD1,hL1];have HD1:=ħ hD1;have HL1:=ħ hL1;have HS2:=ħ hs
 have HBIG:Hid (D.he.length<1024→dY (mL D di b)):=ħ (fun hr=>⟨hs.op,hs.wa,⟨by show (bM D.he (bB D.he di) _).length≤_;rw [cP (show bB D.he di≤D.he.length from gD _ _)];omega,fun x hx=>by
  rcases mD hx with rfl|hx
  · have e:b.tx.length=bn:=HTX.out.1;show b.tx.length≤_;omega
  · exact hs.he.2 x hx⟩,hs.re⟩)
 clear hD1 hL1 hD hL h hp hyh hb ht hm hs h4;show Calls prog 49 #[.agg (cW D P),.agg (cN ki fr tt di b hd cc bA bn bc xA xn xc yA yn yc cA cn cd dA dn dc sA sn sc zA zn zc)] w _;go_enter func49,ntmps49
 go_upto_region 1 with fail
 refine aW (fun W hW=>?_);have HA0:Hid (Blk W w.heap.size 27 (cW D P)):=ħ y32;have HB0:Hid (Blk W (w.heap.size+1) 49 (cN ki fr tt di b hd cc bA bn bc xA xn xc yA yn yc cA cn cd dA dn dc sA sn sc zA zn zc)):=ħ (by rw [hW];exact Blk.new1 w 27 49 (cW D P) (cN ki fr tt di b hd cc bA bn bc xA xn xc yA yn yc cA cn cd dA dn dc sA sn sc zA zn zc));have hbW:Below w w W:=by rw [hW];exact aB (aB (Below.refl _ _))
 clear hW;have hql:=HA0.out.lt;have hqb:=HA0.out.box;obtain ⟨q0,q1,q2,q3,q4,q5,q6,q7,q8⟩:=bx9 hqb;clear hqb;go_upto_region 2 with (go_at_call 17;refine (bK P D _ (HWK.out.up hbW) HS.out).mono ?_;rintro e w1 ⟨⟨⟨oA2,on2,oc2⟩,⟨tA2,tn2,tc2⟩,⟨eA2,en2,ec2⟩,⟨rA2,rn2,rc2⟩⟩,he1,hO1,hb1⟩;simp only [aF.val] at he1;subst he1)
 clear q0 q1 q2 q3 q4 q5 q6 q7 q8 hql;refine aW (fun W2 hW2=>?_);have HG:Hid (Blk W2 w1.heap.size 70 (cU D oA2 on2 oc2 tA2 tn2 tc2 eA2 en2 ec2 rA2 rn2 rc2 none 0 0)):=ħ y45;have hb2:Below w1 w1 W2:=by rw [hW2];exact aB (Below.refl _ _)
 clear hW2;refine nm w1.heap.size fun gs hgs=>?_;refine nm (w.heap.size+1) fun gm hgm=>?_;refine nm w.heap.size fun gw hgw=>?_;have hE:(Value.pointer (some ⟨w,0,none⟩))=.pointer (some ⟨gw,0,none⟩):=by rw [hgw]
 have hz1:w.heap.size+2≤w1.heap.size:=by have:=(HB0.out.up hb1).lt;omega
 have HW0:Hid (Blk W2 gw 27 (cW D P)):=ħ y83;have HBM:Hid (Blk W2 gm 49 (cN ki fr tt di b hd cc bA bn bc xA xn xc yA yn yc cA cn cd dA dn dc sA sn sc zA zn zc)):=ħ y84;have HO2:=ħ ((hO1.mono (B':=w.heap.size) hbW.size).up hb2);have hb0:Below w w W2:=aA (aA hbW hb1) hb2;rw [←hgs] at HG ⊢;rw [←hgm]
 try simp only [hE]
 have hgmr:gm<gs:=by omega
 have hgwm:gw<gm:=by omega
 have hgww:w.heap.size≤gw:=by omega
 clear hgs hgm hgw hE HA0 HB0 hbW hb1 hb2 hO1 hz1;refine wp_region_list ?_;simp only [List.append_eq,List.append,List.cons_append,List.nil_append,List.toList_toArray];refine lm HBM.out.rng underlying49 ?_;refine pl ?_;refine wpList_plain rfl (fun K hK=>?_);have r1:=HW0.out.box.2 1 _ rfl;go_simp;refine hK _ _ ?_;clear hK K;clear r1;refine sp ?_;refine wpList_plain rfl (fun K hK=>?_);go_simp;refine (nI ⟨⟨bA,bn,bc⟩,⟨⟨xA,xn,xc⟩,⟨yA,yn,yc⟩⟩,⟨⟨⟨cA,cn,cd⟩,⟨dA,dn,dc⟩⟩,⟨sA,sn,sc⟩⟩,⟨zA,zn,zc⟩⟩ ⟨ki,fr,tt,di,b,hd,cc,ds⟩ D.nodes true _ (HMM.out.up hb0) HK4.out HBY.out).mono ?_;rintro e w3 ⟨rfl,hb3⟩;dsimp only;refine hK _ _ ?_;clear hK K;refine sp ?_;have HW3:=ħ (HW0.out.up hb3);have HB3:=ħ (HBM.out.up hb3);have HG3:=ħ (HG.out.up hb3);have HO3:=ħ (HO2.out.up hb3);have hb03:=aA hb0 hb3;clear hb3 HW0 HBM HG HO2 hb0
 iterate 3 (first|refine pl ?_|refine pg ?_)
 refine tg fun K hK=>?_;have r2:=HB3.out.box.2 2 _ rfl;go_simp;refine hK _ _ ?_;clear hK K;clear r2;refine sp ?_;refine pg ?_;refine tg fun K hK=>?_;have r0:=HW3.out.box.2 0 _ rfl;go_simp;refine hK _ _ ?_;clear hK K;clear r0;refine sp ?_
 iterate 2 (first|refine pl ?_|refine pg ?_)
 refine wpList_nil ?_;rename_i Ka hKa;refine hKa _ _ ?_;clear hKa Ka;clear hhe hd1;rcases hk with hk|hk
 · subst hk;cases yh
   · by_cases hr:D.he.length<1024
     · skip
       obtain rfl:mL D di b=D1:=by rw [←HD1.out];exact Eq.symm (if_pos ⟨rfl,hr⟩)
       obtain rfl:[iO D.id fr di]=L1:=by rw [←HL1.out];exact Eq.symm (if_pos ⟨rfl,.inr hr⟩)
       have m0:=HB3.out.box.2 0 _ rfl;have m3:=HB3.out.box.2 3 _ rfl;have m4:=HB3.out.box.2 4 _ rfl;have m5:=HB3.out.box.2 5 _ rfl;have m6:=HB3.out.box.2 6 _ rfl;have hgl:=HG3.out.lt;go_upto_region 9 with (go_at_call 84;refine (kJ gs w.heap.size _ _ _ _ _ _ _ _ _ eA2 bA en2 ec2 bn bc D.he di b w3 HG3.out hb03.size HO3.out.he HS2.out.he HSO.out (HTX.out.up hb03) hbn HYH.out hr).mono ?_;rintro e wh ⟨Xh,A3,n3,c3,rfl,rfl,hbh,hhe3⟩)
       clear m0 m3 m4 m5 m6 hgl;have hGh:=HG3.out.up hbh;refine aW (fun Y hY=>?_);have HGY:Hid (Blk Y gs 70 (cU D oA2 on2 oc2 tA2 tn2 tc2 A3 n3 c3 rA2 rn2 rc2 none 0 0)):=ħ y77;have htY:aC 70 w3 Y:=by rw [hY];exact (aC.of_below hbh).trans (aC.setg hGh)
       have HHY:Hid (bL Y w.heap.size (.slice A3 n3 c3) (bM D.he (bB D.he di) ⟨di,b⟩)):=ħ (by rw [hY];exact bL.tkR hhe3 (aC.setg hGh));have HMY:=ħ (HB3.out.tk htY y5);have hbY:Below w w Y:=by rw [hY];exact (aA hb03 hbh).setCell (p:=⟨gs,7,none⟩) y48 _
       have HOY:Hid (aX Y w.heap.size ⟨⟨oA2,on2,oc2⟩,⟨tA2,tn2,tc2⟩,⟨A3,n3,c3⟩,⟨rA2,rn2,rc2⟩⟩ (mL D di b)):=ħ (let h9:=HO3.out.tkR htY;⟨h9.op,h9.wa,HHY.out,h9.re⟩);clear hY hbh hhe3 hGh htY HHY HG3 HB3 HO3 hb03 HW3;have m0:=HMY.out.box.2 0 _ rfl;have hgl:=HGY.out.lt;have m3:=HMY.out.box.2 3 _ rfl;have hfi:=BS (l:=(bM D.he (bB D.he di) ⟨di,b⟩)) (d:=di) (E2 HSO.out HYH.out);refine mn (fC (bM D.he (bB D.he di) ⟨di,b⟩) di) fun zf hzf=>?_;rw [hzf] at hfi;have HZF:=ħ hzf;clear hzf;have HSB:Hid (dY (mL D di b)):=ħ (HBIG.out hr);go_upto_region 10 with (go_at_call 83;refine (eI gs _ _ _ _ _ _ _ _ _ A3 n3 c3 (bM D.he (bB D.he di) ⟨di,b⟩) di _ HGY.out (HOY.out.work HSB.out).he (HSO.out.ins HYH.out)).mono ?_;rintro e w' ⟨rfl,rfl⟩;rw [HZF.out])
       clear m0;have m1:=HMY.out.box.2 1 _ rfl;go_wp2_with (go_at_call 85;refine (kB gs Y.heap.size D.id _ _ _ _ _ _ _ _ none 0 0 [] [] ⟨⟨none,0,0⟩,⟨⟨none,0,0⟩,⟨none,0,0⟩⟩,⟨⟨⟨none,0,0⟩,⟨none,0,0⟩⟩,⟨none,0,0⟩⟩,⟨none,0,0⟩⟩ ⟨2,0,fr,di,⟨0,0,[]⟩,⟨0,0,[],[]⟩,⟨⟨0,0,[],[]⟩,0,[]⟩,[]⟩ Y HGY.out hgl (Nat.le_refl _) (aP.nil _ _) y17 ⟨bD.nil _ _,aE.nil _ _,aE.nil _ _,aE.nil _ _,aE.nil _ _,aE.nil _ _,aE.nil _ _⟩).mono ?_;rintro e wz ⟨Xz,A9,n9,c9,rfl,rfl,hbz,-,hOz⟩)
       have hGz:=HGY.out.up hbz;have HGZ:=ħ (hGz.set_ 9 (.slice A9 n9 c9));have htZ:=(aC.of_below hbz).trans (aC.setg (o:=9) (u:=.slice A9 n9 c9) hGz);have hbZ:Below w w _:=(aA hbY hbz).setCell (p:=⟨gs,9,none⟩) y48 (.slice A9 n9 c9);have HOZ:=ħ (HOY.out.tkR htZ);have HMZ:Hid (aP cT _ w.heap.size (.slice A9 n9 c9) [⟨⟨none,0,0⟩,⟨⟨none,0,0⟩,⟨none,0,0⟩⟩,⟨⟨⟨none,0,0⟩,⟨none,0,0⟩⟩,⟨none,0,0⟩⟩,⟨none,0,0⟩⟩] [iO D.id fr di]):=ħ ((hOz.tkR (aC.setg (o:=9) (u:=.slice A9 n9 c9) hGz)).mono hbY.size);exact bodyPost_ret (v:=.tuple #[.pointer (some ⟨gs,0,none⟩),z0]) y24 rfl ⟨gs,⟨⟨oA2,on2,oc2⟩,⟨tA2,tn2,tc2⟩,⟨A3,n3,c3⟩,⟨rA2,rn2,rc2⟩⟩,A9,n9,c9,_,rfl,HGZ.out,HOZ.out,HMZ.out,by omega,hbZ⟩
     · skip
       obtain rfl:D=D1:=by rw [←HD1.out];exact Eq.symm (if_neg (fun g=>hr g.2))
       obtain rfl:[]=L1:=by rw [←HL1.out];exact Eq.symm (if_neg (fun g=>g.2.elim (fun g2=>by cases g2) hr))
       have m0:=HB3.out.box.2 0 _ rfl;have m3:=HB3.out.box.2 3 _ rfl;have m4:=HB3.out.box.2 4 _ rfl;have m5:=HB3.out.box.2 5 _ rfl;have m6:=HB3.out.box.2 6 _ rfl;have hgl:=HG3.out.lt;go_upto_region 9 with (go_at_call 84;refine (iY gs _ _ _ _ _ _ _ _ _ eA2 bA en2 ec2 bn bc D.he di b w3 HG3.out (HO3.out.work HS2.out).he HSO.out (.inr ⟨HYH.out,by omega⟩)).mono ?_;rintro e Y ⟨rfl,hbh⟩)
       clear m0 m3 m4 m5 m6 hgl;have HGY:=ħ (HG3.out.up hbh);have HMY:=ħ (HB3.out.up hbh);have HOY:=ħ (HO3.out.up hbh);have hbY:=aA hb03 hbh;clear hbh HG3 HB3 HO3 hb03 HW3;have m0:=HMY.out.box.2 0 _ rfl;have hgl:=HGY.out.lt;have m3:=HMY.out.box.2 3 _ rfl;have hfi:=CZ (l:=D.he) (d:=di) HYH.out;refine mn (fC D.he di) fun zf hzf=>?_;rw [hzf] at hfi;have HZF:=ħ hzf;clear hzf;have HSB:Hid (dY D):=ħ HS2.out;go_wp2_with (go_at_call 83;refine (eI gs _ _ _ _ _ _ _ _ _ eA2 en2 ec2 D.he di _ HGY.out (HOY.out.work HSB.out).he HSO.out).mono ?_;rintro e w' ⟨rfl,rfl⟩;rw [HZF.out])
       exact bodyPost_ret (v:=.tuple #[.pointer (some ⟨gs,0,none⟩),z0]) y24 rfl ⟨gs,⟨⟨oA2,on2,oc2⟩,⟨tA2,tn2,tc2⟩,⟨eA2,en2,ec2⟩,⟨rA2,rn2,rc2⟩⟩,none,0,0,[],rfl,HGY.out,HOY.out,aP.nil _ _,by omega,hbY⟩
   · skip
     obtain rfl:D=D1:=by rw [←HD1.out];exact Eq.symm (if_neg (fun g=>by cases g.1))
     obtain rfl:[iO D.id fr di]=L1:=by rw [←HL1.out];exact Eq.symm (if_pos ⟨rfl,.inl rfl⟩)
     have m0:=HB3.out.box.2 0 _ rfl;have m3:=HB3.out.box.2 3 _ rfl;have m4:=HB3.out.box.2 4 _ rfl;have m5:=HB3.out.box.2 5 _ rfl;have m6:=HB3.out.box.2 6 _ rfl;have hgl:=HG3.out.lt;go_upto_region 9 with (go_at_call 84;refine (iY gs _ _ _ _ _ _ _ _ _ eA2 bA en2 ec2 bn bc D.he di b w3 HG3.out (HO3.out.work HS2.out).he HSO.out (.inl HYH.out)).mono ?_;rintro e Y ⟨rfl,hbh⟩)
     clear m0 m3 m4 m5 m6 hgl;have HGY:=ħ (HG3.out.up hbh);have HMY:=ħ (HB3.out.up hbh);have HOY:=ħ (HO3.out.up hbh);have hbY:=aA hb03 hbh;clear hbh HG3 HB3 HO3 hb03 HW3;have m0:=HMY.out.box.2 0 _ rfl;have hgl:=HGY.out.lt;have m3:=HMY.out.box.2 3 _ rfl;have hfi:=BS (l:=D.he) (d:=di) HYH.out;refine mn (fC D.he di) fun zf hzf=>?_;rw [hzf] at hfi;have HZF:=ħ hzf;clear hzf;have HSB:Hid (dY D):=ħ HS2.out;go_upto_region 10 with (go_at_call 83;refine (eI gs _ _ _ _ _ _ _ _ _ eA2 en2 ec2 D.he di _ HGY.out (HOY.out.work HSB.out).he HSO.out).mono ?_;rintro e w' ⟨rfl,rfl⟩;rw [HZF.out])
     clear m0;have m1:=HMY.out.box.2 1 _ rfl;go_wp2_with (go_at_call 85;refine (kB gs Y.heap.size D.id _ _ _ _ _ _ _ _ none 0 0 [] [] ⟨⟨none,0,0⟩,⟨⟨none,0,0⟩,⟨none,0,0⟩⟩,⟨⟨⟨none,0,0⟩,⟨none,0,0⟩⟩,⟨none,0,0⟩⟩,⟨none,0,0⟩⟩ ⟨2,0,fr,di,⟨0,0,[]⟩,⟨0,0,[],[]⟩,⟨⟨0,0,[],[]⟩,0,[]⟩,[]⟩ Y HGY.out hgl (Nat.le_refl _) (aP.nil _ _) y17 ⟨bD.nil _ _,aE.nil _ _,aE.nil _ _,aE.nil _ _,aE.nil _ _,aE.nil _ _,aE.nil _ _⟩).mono ?_;rintro e wz ⟨Xz,A9,n9,c9,rfl,rfl,hbz,-,hOz⟩)
     have hGz:=HGY.out.up hbz;have HGZ:=ħ (hGz.set_ 9 (.slice A9 n9 c9));have htZ:=(aC.of_below hbz).trans (aC.setg (o:=9) (u:=.slice A9 n9 c9) hGz);have hbZ:Below w w _:=(aA hbY hbz).setCell (p:=⟨gs,9,none⟩) y48 (.slice A9 n9 c9);have HOZ:=ħ (HOY.out.tkR htZ);have HMZ:Hid (aP cT _ w.heap.size (.slice A9 n9 c9) [⟨⟨none,0,0⟩,⟨⟨none,0,0⟩,⟨none,0,0⟩⟩,⟨⟨⟨none,0,0⟩,⟨none,0,0⟩⟩,⟨none,0,0⟩⟩,⟨none,0,0⟩⟩] [iO D.id fr di]):=ħ ((hOz.tkR (aC.setg (o:=9) (u:=.slice A9 n9 c9) hGz)).mono hbY.size);exact bodyPost_ret (v:=.tuple #[.pointer (some ⟨gs,0,none⟩),z0]) y24 rfl ⟨gs,⟨⟨oA2,on2,oc2⟩,⟨tA2,tn2,tc2⟩,⟨eA2,en2,ec2⟩,⟨rA2,rn2,rc2⟩⟩,A9,n9,c9,_,rfl,HGZ.out,HOZ.out,HMZ.out,by omega,hbZ⟩
 · subst hk;cases yh
   · by_cases hr:D.he.length<1024
     · skip
       obtain rfl:mL D di b=D1:=by rw [←HD1.out];exact Eq.symm (if_pos ⟨rfl,hr⟩)
       obtain rfl:[]=L1:=by rw [←HL1.out];exact Eq.symm (if_neg y17)
       have m0:=HB3.out.box.2 0 _ rfl;have m3:=HB3.out.box.2 3 _ rfl;have m4:=HB3.out.box.2 4 _ rfl;have m5:=HB3.out.box.2 5 _ rfl;have m6:=HB3.out.box.2 6 _ rfl;have hgl:=HG3.out.lt;go_upto_region 9 with (go_at_call 84;refine (kJ gs w.heap.size _ _ _ _ _ _ _ _ _ eA2 bA en2 ec2 bn bc D.he di b w3 HG3.out hb03.size HO3.out.he HS2.out.he HSO.out (HTX.out.up hb03) hbn HYH.out hr).mono ?_;rintro e wh ⟨Xh,A3,n3,c3,rfl,rfl,hbh,hhe3⟩)
       clear m0 m3 m4 m5 m6 hgl;have hGh:=HG3.out.up hbh;refine aW (fun Y hY=>?_);have HGY:Hid (Blk Y gs 70 (cU D oA2 on2 oc2 tA2 tn2 tc2 A3 n3 c3 rA2 rn2 rc2 none 0 0)):=ħ y77;have htY:aC 70 w3 Y:=by rw [hY];exact (aC.of_below hbh).trans (aC.setg hGh)
       have HHY:Hid (bL Y w.heap.size (.slice A3 n3 c3) (bM D.he (bB D.he di) ⟨di,b⟩)):=ħ (by rw [hY];exact bL.tkR hhe3 (aC.setg hGh));have HMY:=ħ (HB3.out.tk htY y5);have hbY:Below w w Y:=by rw [hY];exact (aA hb03 hbh).setCell (p:=⟨gs,7,none⟩) y48 _
       have HOY:Hid (aX Y w.heap.size ⟨⟨oA2,on2,oc2⟩,⟨tA2,tn2,tc2⟩,⟨A3,n3,c3⟩,⟨rA2,rn2,rc2⟩⟩ (mL D di b)):=ħ (let h9:=HO3.out.tkR htY;⟨h9.op,h9.wa,HHY.out,h9.re⟩);clear hY hbh hhe3 hGh htY HHY HG3 HB3 HO3 hb03 HW3;have m0:=HMY.out.box.2 0 _ rfl;have hgl:=HGY.out.lt;go_wp2_with fail
       exact bodyPost_ret (v:=.tuple #[.pointer (some ⟨gs,0,none⟩),z0]) y24 rfl ⟨gs,⟨⟨oA2,on2,oc2⟩,⟨tA2,tn2,tc2⟩,⟨A3,n3,c3⟩,⟨rA2,rn2,rc2⟩⟩,none,0,0,[],rfl,HGY.out,HOY.out,aP.nil _ _,by omega,hbY⟩
     · skip
       obtain rfl:D=D1:=by rw [←HD1.out];exact Eq.symm (if_neg (fun g=>hr g.2))
       obtain rfl:[]=L1:=by rw [←HL1.out];exact Eq.symm (if_neg (fun g=>g.2.elim (fun g2=>by cases g2) hr))
       have m0:=HB3.out.box.2 0 _ rfl;have m3:=HB3.out.box.2 3 _ rfl;have m4:=HB3.out.box.2 4 _ rfl;have m5:=HB3.out.box.2 5 _ rfl;have m6:=HB3.out.box.2 6 _ rfl;have hgl:=HG3.out.lt;go_upto_region 9 with (go_at_call 84;refine (iY gs _ _ _ _ _ _ _ _ _ eA2 bA en2 ec2 bn bc D.he di b w3 HG3.out (HO3.out.work HS2.out).he HSO.out (.inr ⟨HYH.out,by omega⟩)).mono ?_;rintro e Y ⟨rfl,hbh⟩)
       clear m0 m3 m4 m5 m6 hgl;have HGY:=ħ (HG3.out.up hbh);have HMY:=ħ (HB3.out.up hbh);have HOY:=ħ (HO3.out.up hbh);have hbY:=aA hb03 hbh;clear hbh HG3 HB3 HO3 hb03 HW3;have m0:=HMY.out.box.2 0 _ rfl;have hgl:=HGY.out.lt;go_wp2_with fail
       exact bodyPost_ret (v:=.tuple #[.pointer (some ⟨gs,0,none⟩),z0]) y24 rfl ⟨gs,⟨⟨oA2,on2,oc2⟩,⟨tA2,tn2,tc2⟩,⟨eA2,en2,ec2⟩,⟨rA2,rn2,rc2⟩⟩,none,0,0,[],rfl,HGY.out,HOY.out,aP.nil _ _,by omega,hbY⟩
   · skip
     obtain rfl:D=D1:=by rw [←HD1.out];exact Eq.symm (if_neg (fun g=>by cases g.1))
     obtain rfl:[]=L1:=by rw [←HL1.out];exact Eq.symm (if_neg (fun g=>by cases g.1))
     have m0:=HB3.out.box.2 0 _ rfl;have m3:=HB3.out.box.2 3 _ rfl;have m4:=HB3.out.box.2 4 _ rfl;have m5:=HB3.out.box.2 5 _ rfl;have m6:=HB3.out.box.2 6 _ rfl;have hgl:=HG3.out.lt;go_upto_region 9 with (go_at_call 84;refine (iY gs _ _ _ _ _ _ _ _ _ eA2 bA en2 ec2 bn bc D.he di b w3 HG3.out (HO3.out.work HS2.out).he HSO.out (.inl HYH.out)).mono ?_;rintro e Y ⟨rfl,hbh⟩)
     clear m0 m3 m4 m5 m6 hgl;have HGY:=ħ (HG3.out.up hbh);have HMY:=ħ (HB3.out.up hbh);have HOY:=ħ (HO3.out.up hbh);have hbY:=aA hb03 hbh;clear hbh HG3 HB3 HO3 hb03 HW3;have m0:=HMY.out.box.2 0 _ rfl;have hgl:=HGY.out.lt;go_wp2_with fail
     exact bodyPost_ret (v:=.tuple #[.pointer (some ⟨gs,0,none⟩),z0]) y24 rfl ⟨gs,⟨⟨oA2,on2,oc2⟩,⟨tA2,tn2,tc2⟩,⟨eA2,en2,ec2⟩,⟨rA2,rn2,rc2⟩⟩,none,0,0,[],rfl,HGY.out,HOY.out,aP.nil _ _,by omega,hbY⟩
end Go.Proofs.YtgfakefcmbpboaaGreat
