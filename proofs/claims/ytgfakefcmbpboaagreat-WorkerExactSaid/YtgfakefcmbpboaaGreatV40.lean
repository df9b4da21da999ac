/- Part 40 of what WorkerExact leans on. No conditions. -/
import Derived.Test.YtgfakefcmbpboaaGreatV38
import Derived.Test.YtgfakefcmbpboaaGreatV39
namespace Go.Proofs.YtgfakefcmbpboaaGreat
set_option linter.all false
set_option maxRecDepth 100000
set_option maxHeartbeats 64000000
open _root_.Go.Proofs.Tryz Go.RowKit
open Tok
theorem aP.tkM {T:TypeId} {w w':World} {B:Nat} {v:Value} {ps:List bQ} {l:List aY} (h:aP cT w B v ps l) (hk:aC T w w') (hT:uP T):aP cT w' B v ps l:=⟨eS h.1 hk hT y5 y5,h.2.1,fun j hj=>dS.tk (h.2.2 j hj) hk hT⟩
noncomputable def rS (D:aD) (M:aY):aD:=if dL D.he M.di=false∧D.he.length<1024 then mL D M.di M.b else D
def iO (id fr di:Int):aY:=⟨2,id,fr,di,⟨0,0,[]⟩,⟨0,0,[],[]⟩,⟨⟨0,0,[],[]⟩,0,[]⟩,[]⟩
noncomputable def sK (D:aD) (M:aY):List aY:=if M.ki=1∧(dL D.he M.di=true∨D.he.length<1024) then [iO D.id M.fr M.di] else []
theorem CG (P:aF) (D:aD) (Pm:bQ) (M:aY) (B:Nat) (w:World) (hO:aX w B P D) (hs:dY D) (hB:B≤w.heap.size) (hm:dZ D=true) (hp:bZ w Pm.b.A Pm.b.n M.b.tx) (hbn:Pm.b.n≤800000000) (hk:M.ki=1∨M.ki=3) :
 Calls prog 96 #[P.val D,M18 Pm M] w fun e w'=>∃P' A n c,e=.returned (.tuple #[P'.val (rS D M),.slice A n c])∧aX w' B P' (rS D M)∧dH w' w.heap.size (.slice A n c) (sK D M)∧Below w w w':=by
 obtain ⟨⟨bA,bn,bc⟩,⟨⟨xA,xn,xc⟩,⟨yA,yn,yc⟩⟩,⟨⟨⟨cA,cn,cd⟩,⟨dA,dn,dc⟩⟩,⟨sA,sn,sc⟩⟩,⟨zA,zn,zc⟩⟩:=Pm;obtain ⟨ki,fr,tt,di,b,hd,cc,ds⟩:=M;dsimp only at hp hbn hk;have HM:=ħ (cX.1 hm);have HW:=ħ (hO.work hs);have HO:=ħ hO;have HS:=ħ hs;have HTX:=ħ hp;refine mn (bB D.he di) fun lo hlo=>?_;refine mn (dL D.he di) fun yh hyh=>?_;have HLO:=ħ hlo;have HYH:=ħ hyh;have HEN:Hid (D.he.length=P.he.n):=ħ HW.out.he.1;have hen:P.he.n≤1024:=by rw [←HEN.out];exact HM.out.2.2.2.2.2.2.2.1
 have HSO:Hid (dQ D.he):=ħ (fD.1 HM.out.2.2.2.2.2.2.2.2.2.2.1).sorted;have hD:rS D ⟨ki,fr,tt,di,b,hd,cc,ds⟩=if yh=false∧P.he.n<1024 then mL D di b else D:=by unfold rS;rw [hyh,HEN.out]
 have hL:sK D ⟨ki,fr,tt,di,b,hd,cc,ds⟩=if ki=1∧(yh=true∨P.he.n<1024) then [iO D.id fr di] else []:=by unfold sK;rw [hyh,HEN.out]
 rw [hD,hL];obtain ⟨D1,hD1⟩:∃z,(if yh=false∧P.he.n<1024 then mL D di b else D)=z:=⟨_,rfl⟩;obtain ⟨L1,hL1⟩:∃z,(if ki=1∧(yh=true∨P.he.n<1024) then [iO D.id fr di] else [])=z:=⟨_,rfl⟩;rw [hD1,hL1];have HD1:=ħ hD1;have HL1:=ħ hL1;clear hD1 hL1;clear hO hs hm hp hlo hyh hD hL;show Calls prog 96 #[.agg (cW D P),.agg (cN ki fr tt di b hd cc bA bn bc xA xn xc yA yn yc cA cn cd dA dn dc sA sn sc zA zn zc)] w _;go_enter func96,ntmps96
 go_upto_region 2 with fail
 refine aW (fun W hW=>?_);have HBM:Hid (Blk W (w.heap.size+1) 49 (cN ki fr tt di b hd cc bA bn bc xA xn xc yA yn yc cA cn cd dA dn dc sA sn sc zA zn zc)):=ħ (by rw [hW];exact ((Blk.new1 w 27 49 (cW D P) (cN ki fr tt di b hd cc bA bn bc xA xn xc yA yn yc cA cn cd dA dn dc sA sn sc zA zn zc)).up (aB (Below.refl _ _))).up (aB (Below.refl _ _)))
 have HR:Hid (Blk W (w.heap.size+1+1) 27 cZ):=ħ (by
  rw [hW];have h9:=Blk.new1 (w.alloc (.cells (cW D P) 27)) 49 27 (cN ki fr tt di b hd cc bA bn bc xA xn xc yA yn yc cA cn cd dA dn dc sA sn sc zA zn zc) cZ;rw [show (w.alloc (.cells (cW D P) 27)).heap.size=w.heap.size+1 by simp] at h9;exact h9.up (aB (Below.refl _ _)))
 have HG:Hid (Blk W (w.heap.size+1+1+1) 142 (cS D P none 0 0)):=ħ (by
  rw [hW];have h9:=Blk.new1 ((w.alloc (.cells (cW D P) 27)).alloc (.cells (cN ki fr tt di b hd cc bA bn bc xA xn xc yA yn yc cA cn cd dA dn dc sA sn sc zA zn zc) 49)) 27 142 cZ (cS D P none 0 0)
  rwa [show ((w.alloc (.cells (cW D P) 27)).alloc (.cells (cN ki fr tt di b hd cc bA bn bc xA xn xc yA yn yc cA cn cd dA dn dc sA sn sc zA zn zc) 49)).heap.size=w.heap.size+1+1 by simp] at h9)
 have hbW:Below w w W:=by rw [hW];exact aB (aB (aB (aB (Below.refl _ _))))
 clear hW;refine nm (w.heap.size+1+1+1) fun gs hgs=>?_;refine nm (w.heap.size+1+1) fun gr hgr=>?_;refine nm (w.heap.size+1) fun gm hgm=>?_;rw [←hgs] at HG;rw [←hgr] at HR;rw [←hgm] at HBM;have hgs3:gs=w.heap.size+3:=by rw [hgs]
 have hgr3:gr=w.heap.size+2:=by rw [hgr]
 try rw [←hgs]
 try rw [←hgr]
 try rw [←hgm]
 try rw [←hgs3]
 try rw [←hgr3]
 have hgmr:gm<gr:=by omega
 have hgrs:gr<gs:=by omega
 have hgwm:w.heap.size<gm:=by omega
 clear hgs hgr hgm hgs3 hgr3;obtain ⟨S,hSd⟩:∃S:World→Prop,S=fun Q=>Q.cell? ⟨gs,7,none⟩=some (.slice P.he.A P.he.n P.he.c)∧Q.cell? ⟨gm,3,none⟩=some (.int .i64 di):=⟨_,rfl⟩;have hS1:∀Q,S Q→Q.cell? ⟨gs,7,none⟩=some (.slice P.he.A P.he.n P.he.c):=fun Q h=>by rw [hSd] at h;exact h.1
 have hS2:∀Q,S Q→Q.cell? ⟨gm,3,none⟩=some (.int .i64 di):=fun Q h=>by rw [hSd] at h;exact h.2
 have hS:∀Q,Below W W Q→S Q:=fun Q hQ=>by rw [hSd];exact ⟨(HG.out.up hQ).box.2 7 _ rfl,(HBM.out.up hQ).box.2 3 _ rfl⟩
 clear hSd;refine hdq hS fun hHeld=>?_;have hbd:=bdr W;have hZ:=hHeld;generalize W.drew=Z at *;refine tk 0 17 ?_;refine tk 1 18 ?_;refine tk 2 19 ?_;refine tk 3 20 ?_;refine tq 4 21 hS1 ?_;refine tk 5 22 ?_;refine tq 6 23 hS2 ?_;refine ry 7 fun K hK=>?_;go_simp;(go_at_call 118;refine (gZ P.he.A P.he.n P.he.c D.he di lo yh _ (HW.out.he.up (aA hbW hbd)) HSO.out y2 HLO.out HYH.out).mono ?_;rintro e w5 ⟨rfl,hb5⟩)
 refine hkq hK (hS _ (aA hbd hb5)) fun hHeld=>?_;clear hK K;refine tk 8 16 ?_;refine tk 9 25 ?_;refine tk 10 26 ?_;refine tk 11 7 ?_;refine tk 12 8 ?_;refine wzq ?_;refine nm w5 fun X hX=>?_;rw [←hX] at hb5 ⊢;have hbX:=aA hbW (aA hbd hb5);have HGX:=ħ (HG.out.up (aA hbd hb5));have HMX:=ħ (HBM.out.up (aA hbd hb5));have HRX:=ħ (HR.out.up (aA hbd hb5));have hBX:B≤X.heap.size:=Nat.le_trans hB hbX.size;clear hX hb5 hbd hHeld hZ HG HBM HR hbW hS hS1 hS2;rcases hk with hk|hk
 · subst hk;cases yh
   · by_cases hr:P.he.n<1024
     · have hr2:decide ((P.he.n:Int)<1024)=true:=by simp;omega
       obtain rfl:mL D di b=D1:=by rw [←HD1.out];exact Eq.symm (if_pos ⟨rfl,hr⟩)
       obtain rfl:[iO D.id fr di]=L1:=by rw [←HL1.out];exact Eq.symm (if_pos ⟨rfl,.inr hr⟩)
       have g7:=HGX.out.box.2 7 _ rfl;have m0:=HMX.out.box.2 0 _ rfl;have hgl:=HGX.out.lt;have m3:=HMX.out.box.2 3 _ rfl;have m4:=HMX.out.box.2 4 _ rfl;have m5:=HMX.out.box.2 5 _ rfl;have m6:=HMX.out.box.2 6 _ rfl;go_upto_region 15 with (go_at_call 119;refine (yM gs B P.op.A P.wa.A P.he.A P.re.A none bA P.op.n P.op.c P.wa.n P.wa.c P.he.n P.he.c P.re.n P.re.c 0 0 bn bc D di b X HGX.out hBX (HO.out.up hbX).he HS.out.he HSO.out (HTX.out.up hbX) hbn).mono ?_;rintro e wh ⟨Xh,A3,n3,c3,rfl,rfl,hbh,hhe⟩)
       clear g7 m0 m3 m4 m5 m6 hgl;have hGh:=HGX.out.up hbh;refine aW (fun Y hY=>?_);have HGY:Hid (Blk Y gs 142 [D.id,D.nodes,D.next,P.op,D.age,D.clock,P.wa,.slice A3 n3 c3,P.re,n0]):=ħ y77;have htY:aC 142 X Y:=by rw [hY];exact (aC.of_below hbh).trans (aC.setg hGh)
       have HHY:Hid (bL Y B (.slice A3 n3 c3) (bM D.he (bB D.he di) ⟨di,b⟩)):=ħ (by rw [hY];exact hhe.tk (aC.setg hGh) eF);have HMY:=ħ (HMX.out.tk htY y5);have HRY:=ħ (HRX.out.tk htY y5);have hbY:Below w w Y:=by rw [hY];exact (aA hbX hbh).setCell (p:=⟨gs,7,none⟩) y48 _
       have HOX:=HO.out.up hbX;have HOY:Hid (aX Y B ⟨P.op,P.wa,⟨A3,n3,c3⟩,P.re⟩ (mL D di b)):=ħ (let h9:=HOX.tk htY eF;⟨h9.op,h9.wa,HHY.out,h9.re⟩);clear hY hbh hhe hGh htY HHY HOX HGX HMX HRX hbX hBX;have m0:=HMY.out.box.2 0 _ rfl;have hgl:=HGY.out.lt;have m1:=HMY.out.box.2 1 _ rfl;have m3:=HMY.out.box.2 3 _ rfl;go_upto_region 21 with (go_at_call 133;refine (xU gs Y.heap.size D.id fr _ _ _ _ _ _ _ _ none 0 0 [] [] ⟨⟨none,0,0⟩,⟨⟨none,0,0⟩,⟨none,0,0⟩⟩,⟨⟨⟨none,0,0⟩,⟨none,0,0⟩⟩,⟨none,0,0⟩⟩,⟨none,0,0⟩⟩ ⟨2,0,0,di,⟨0,0,[]⟩,⟨0,0,[],[]⟩,⟨⟨0,0,[],[]⟩,0,[]⟩,[]⟩ Y HGY.out hgl (Nat.le_refl _) (aP.nil _ _) y17 ⟨bD.nil _ _,aE.nil _ _,aE.nil _ _,aE.nil _ _,aE.nil _ _,aE.nil _ _,aE.nil _ _⟩).mono ?_;rintro e wz ⟨Xz,A9,n9,c9,rfl,rfl,hbz,-,hOz⟩)
       have hGz:=HGY.out.up hbz;have HGZ:=ħ (hGz.set_ 9 (.slice A9 n9 c9));have htZ:=(aC.of_below hbz).trans (aC.setg (o:=9) (u:=.slice A9 n9 c9) hGz);have HRZ:=ħ (HRY.out.tk htZ y5);have hbZ:Below w w _:=(aA hbY hbz).setCell (p:=⟨gs,9,none⟩) y48 (.slice A9 n9 c9);have HOZ:=ħ (HOY.out.tk htZ eF);have HMZ:Hid (dH _ w.heap.size (.slice A9 n9 c9) [iO D.id fr di]):=ħ ⟨_,(hOz.tkM (aC.setg (o:=9) (u:=.slice A9 n9 c9) hGz) eF).mono hbY.size⟩;rename_i K hK;exact jV gr gs D.id D.nodes D.next D.age D.clock P.op.A P.wa.A A3 P.re.A A9 P.op.n P.op.c P.wa.n P.wa.c n3 c3 P.re.n P.re.c n9 c9 _ hK y2 HGZ.out HRZ.out (fun W' ht hbn'=>⟨⟨P.op,P.wa,⟨A3,n3,c3⟩,P.re⟩,A9,n9,c9,rfl,HOZ.out.tk ht aU,HMZ.out.tk ht aU,hbZ.trans (hbn' _ y2)⟩)
     · have hr2:decide ((P.he.n:Int)<1024)=false:=by simp;omega
       obtain rfl:D=D1:=by rw [←HD1.out];exact Eq.symm (if_neg (fun g=>hr g.2))
       obtain rfl:[]=L1:=by rw [←HL1.out];exact Eq.symm (if_neg (fun g=>g.2.elim (fun g2=>by cases g2) hr))
       have g7:=HGX.out.box.2 7 _ rfl;have m0:=HMX.out.box.2 0 _ rfl;have hgl:=HGX.out.lt;go_upto_region 21 with fail
       rename_i K hK;exact jV gr gs D.id D.nodes D.next D.age D.clock P.op.A P.wa.A P.he.A P.re.A none P.op.n P.op.c P.wa.n P.wa.c P.he.n P.he.c P.re.n P.re.c 0 0 _ hK y2 HGX.out HRX.out (fun W' ht hbn'=>⟨P,none,0,0,rfl,(ħ (HO.out.up hbX)).out.tk ht aU,dH.nil _ _,hbX.trans (hbn' _ y2)⟩)
   · have hr2:=0;obtain rfl:D=D1:=by rw [←HD1.out];exact Eq.symm (if_neg (fun g=>by cases g.1))
     obtain rfl:[iO D.id fr di]=L1:=by rw [←HL1.out];exact Eq.symm (if_pos ⟨rfl,.inl rfl⟩)
     have g7:=HGX.out.box.2 7 _ rfl;have m0:=HMX.out.box.2 0 _ rfl;have hgl:=HGX.out.lt;have m1:=HMX.out.box.2 1 _ rfl;have m3:=HMX.out.box.2 3 _ rfl;go_upto_region 21 with (go_at_call 133;refine (xU gs X.heap.size D.id fr _ _ _ _ _ _ _ _ none 0 0 [] [] ⟨⟨none,0,0⟩,⟨⟨none,0,0⟩,⟨none,0,0⟩⟩,⟨⟨⟨none,0,0⟩,⟨none,0,0⟩⟩,⟨none,0,0⟩⟩,⟨none,0,0⟩⟩ ⟨2,0,0,di,⟨0,0,[]⟩,⟨0,0,[],[]⟩,⟨⟨0,0,[],[]⟩,0,[]⟩,[]⟩ X HGX.out hgl (Nat.le_refl _) (aP.nil _ _) y17 ⟨bD.nil _ _,aE.nil _ _,aE.nil _ _,aE.nil _ _,aE.nil _ _,aE.nil _ _,aE.nil _ _⟩).mono ?_;rintro e wz ⟨Xz,A9,n9,c9,rfl,rfl,hbz,-,hOz⟩)
     have hGz:=HGX.out.up hbz;have HGZ:=ħ (hGz.set_ 9 (.slice A9 n9 c9));have htZ:=(aC.of_below hbz).trans (aC.setg (o:=9) (u:=.slice A9 n9 c9) hGz);have HRZ:=ħ (HRX.out.tk htZ y5);have hbZ:Below w w _:=(aA hbX hbz).setCell (p:=⟨gs,9,none⟩) y48 (.slice A9 n9 c9);have HOZ:=ħ ((ħ (HO.out.up hbX)).out.tk htZ eF);have HMZ:Hid (dH _ w.heap.size (.slice A9 n9 c9) [iO D.id fr di]):=ħ ⟨_,(hOz.tkM (aC.setg (o:=9) (u:=.slice A9 n9 c9) hGz) eF).mono hbX.size⟩;rename_i K hK;exact jV gr gs D.id D.nodes D.next D.age D.clock P.op.A P.wa.A P.he.A P.re.A A9 P.op.n P.op.c P.wa.n P.wa.c P.he.n P.he.c P.re.n P.re.c n9 c9 _ hK y2 HGZ.out HRZ.out (fun W' ht hbn'=>⟨P,A9,n9,c9,rfl,HOZ.out.tk ht aU,HMZ.out.tk ht aU,hbZ.trans (hbn' _ y2)⟩)
 · subst hk;cases yh
   · by_cases hr:P.he.n<1024
     · have hr2:decide ((P.he.n:Int)<1024)=true:=by simp;omega
       obtain rfl:mL D di b=D1:=by rw [←HD1.out];exact Eq.symm (if_pos ⟨rfl,hr⟩)
       obtain rfl:[]=L1:=by rw [←HL1.out];exact Eq.symm (if_neg y17)
       have g7:=HGX.out.box.2 7 _ rfl;have m0:=HMX.out.box.2 0 _ rfl;have hgl:=HGX.out.lt;have m3:=HMX.out.box.2 3 _ rfl;have m4:=HMX.out.box.2 4 _ rfl;have m5:=HMX.out.box.2 5 _ rfl;have m6:=HMX.out.box.2 6 _ rfl;go_upto_region 15 with (go_at_call 119;refine (yM gs B P.op.A P.wa.A P.he.A P.re.A none bA P.op.n P.op.c P.wa.n P.wa.c P.he.n P.he.c P.re.n P.re.c 0 0 bn bc D di b X HGX.out hBX (HO.out.up hbX).he HS.out.he HSO.out (HTX.out.up hbX) hbn).mono ?_;rintro e wh ⟨Xh,A3,n3,c3,rfl,rfl,hbh,hhe⟩)
       clear g7 m0 m3 m4 m5 m6 hgl;have hGh:=HGX.out.up hbh;refine aW (fun Y hY=>?_);have HGY:Hid (Blk Y gs 142 [D.id,D.nodes,D.next,P.op,D.age,D.clock,P.wa,.slice A3 n3 c3,P.re,n0]):=ħ y77;have htY:aC 142 X Y:=by rw [hY];exact (aC.of_below hbh).trans (aC.setg hGh)
       have HHY:Hid (bL Y B (.slice A3 n3 c3) (bM D.he (bB D.he di) ⟨di,b⟩)):=ħ (by rw [hY];exact hhe.tk (aC.setg hGh) eF);have HMY:=ħ (HMX.out.tk htY y5);have HRY:=ħ (HRX.out.tk htY y5);have hbY:Below w w Y:=by rw [hY];exact (aA hbX hbh).setCell (p:=⟨gs,7,none⟩) y48 _
       have HOX:=HO.out.up hbX;have HOY:Hid (aX Y B ⟨P.op,P.wa,⟨A3,n3,c3⟩,P.re⟩ (mL D di b)):=ħ (let h9:=HOX.tk htY eF;⟨h9.op,h9.wa,HHY.out,h9.re⟩);clear hY hbh hhe hGh htY HHY HOX HGX HMX HRX hbX hBX;have m0:=HMY.out.box.2 0 _ rfl;have hgl:=HGY.out.lt;go_upto_region 21 with fail
       rename_i K hK;exact jV gr gs D.id D.nodes D.next D.age D.clock P.op.A P.wa.A A3 P.re.A none P.op.n P.op.c P.wa.n P.wa.c n3 c3 P.re.n P.re.c 0 0 _ hK y2 HGY.out HRY.out (fun W' ht hbn'=>⟨⟨P.op,P.wa,⟨A3,n3,c3⟩,P.re⟩,none,0,0,rfl,HOY.out.tk ht aU,dH.nil _ _,hbY.trans (hbn' _ y2)⟩)
     · have hr2:decide ((P.he.n:Int)<1024)=false:=by simp;omega
       obtain rfl:D=D1:=by rw [←HD1.out];exact Eq.symm (if_neg (fun g=>hr g.2))
       obtain rfl:[]=L1:=by rw [←HL1.out];exact Eq.symm (if_neg (fun g=>g.2.elim (fun g2=>by cases g2) hr))
       have g7:=HGX.out.box.2 7 _ rfl;have m0:=HMX.out.box.2 0 _ rfl;have hgl:=HGX.out.lt;go_upto_region 21 with fail
       rename_i K hK;exact jV gr gs D.id D.nodes D.next D.age D.clock P.op.A P.wa.A P.he.A P.re.A none P.op.n P.op.c P.wa.n P.wa.c P.he.n P.he.c P.re.n P.re.c 0 0 _ hK y2 HGX.out HRX.out (fun W' ht hbn'=>⟨P,none,0,0,rfl,(ħ (HO.out.up hbX)).out.tk ht aU,dH.nil _ _,hbX.trans (hbn' _ y2)⟩)
   · have hr2:=0;obtain rfl:D=D1:=by rw [←HD1.out];exact Eq.symm (if_neg (fun g=>by cases g.1))
     obtain rfl:[]=L1:=by rw [←HL1.out];exact Eq.symm (if_neg (fun g=>by cases g.1))
     have g7:=HGX.out.box.2 7 _ rfl;have m0:=HMX.out.box.2 0 _ rfl;have hgl:=HGX.out.lt;go_upto_region 21 with fail
     rename_i K hK;exact jV gr gs D.id D.nodes D.next D.age D.clock P.op.A P.wa.A P.he.A P.re.A none P.op.n P.op.c P.wa.n P.wa.c P.he.n P.he.c P.re.n P.re.c 0 0 _ hK y2 HGX.out HRX.out (fun W' ht hbn'=>⟨P,none,0,0,rfl,(ħ (HO.out.up hbX)).out.tk ht aU,dH.nil _ _,hbX.trans (hbn' _ y2)⟩)
theorem IV {P:Program} {ops:Array Oper} {Q:Exit→Act→World→Prop} {a:Act} {w:World} {rest:List Oper} {o:Oper} (hg:Region.wanted o (yielded ops a.tmps)=false)
 (h:wpList P ops Q rest (a.put o.dst undef) w):wpList P ops Q (o :: rest) a w:=
 wpList_step fun K hK=>by rw [if_neg (by rw [hg];simp)];exact hK _ _ h
theorem FQ {k:Int}:cQ [1,2,3,7] k=true↔jC k:=by
 unfold cQ jC;simp
theorem uW (k:Int) (y:Bool) (w:World) (hm:cQ [1,2,3,7] k=y):Calls prog 95 #[k] w fun e w'=>e=.returned (.bool y)∧Below w w w':=by
 have HM:=ħ hm;clear hm;go_enter func95,ntmps95
 go_wp2_with fail
 refine (cD (some ⟨w,0,none⟩) 4 4 [1,2,3,7] k y _ ⟨rfl,by omega,fun _=>⟨w,0,rfl,by simp,fun j hj=>(by rw [Nat.zero_add];exact (Blk.new w 3 [.int .i64 1,.int .i64 2,.int .i64 3,.int .i64 7]).box.2 j _ (by match j,hj with|0,_=>rfl|1,_=>rfl|2,_=>rfl|3,_=>rfl))⟩⟩ HM.out).mono ?_;rintro e w7 ⟨rfl,hb7⟩;go_wp2_with fail
 go_ret
 exact ⟨rfl,aI⟩
theorem tS (P:aF) (D:aD) (Pm:bQ) (M:aY) (y:Int) (w:World) (h:bG w P D) (hp:eO w Pm M) (hy:zJ D M=y) (hy0:y≠0) :
 Calls prog 51 #[P.val D,M18 Pm M] w fun e w'=>e=.returned (.tuple #[jF,n0,y])∧Below w w w':=by
 obtain ⟨⟨bA,bn,bc⟩,⟨⟨xA,xn,xc⟩,⟨yA,yn,yc⟩⟩,⟨⟨⟨cA,cn,cd⟩,⟨dA,dn,dc⟩⟩,⟨sA,sn,sc⟩⟩,⟨zA,zn,zc⟩⟩:=Pm;obtain ⟨ki,fr,tt,di,b,hd,cc,ds⟩:=M;have HWK:=ħ h;have HMM:=ħ hp;unfold zJ at hy;dsimp only at hy;refine mn (dZ D) fun ym hym=>?_;refine mn (kI ⟨ki,fr,tt,di,b,hd,cc,ds⟩ D.nodes) fun yb hyb=>?_;rw [hym,hyb] at hy;have HMY:=ħ hym;have HBY:=ħ hyb;have HY:=ħ hy;have HY0:=ħ hy0;clear h hp hym hyb hy hy0;show Calls prog 51 #[.agg (cW D P),.agg (cN ki fr tt di b hd cc bA bn bc xA xn xc yA yn yc cA cn cd dA dn dc sA sn sc zA zn zc)] w _;go_enter func51,ntmps51
 go_upto_region 1 with fail
 refine aW (fun W hW=>?_);have HW00:Hid (Blk W w.heap.size 27 (cW D P)):=ħ y32;have HBM:Hid (Blk W (w.heap.size+1) 49 (cN ki fr tt di b hd cc bA bn bc xA xn xc yA yn yc cA cn cd dA dn dc sA sn sc zA zn zc)):=ħ (by rw [hW];exact (Blk.new1 w 27 49 (cW D P) (cN ki fr tt di b hd cc bA bn bc xA xn xc yA yn yc cA cn cd dA dn dc sA sn sc zA zn zc)).up (aB (Below.refl _ _)))
 have HR:Hid (Blk W (w.heap.size+1+1) 27 cZ):=ħ (by
  rw [hW];have h9:=Blk.new1 (w.alloc (.cells (cW D P) 27)) 49 27 (cN ki fr tt di b hd cc bA bn bc xA xn xc yA yn yc cA cn cd dA dn dc sA sn sc zA zn zc) cZ
  rwa [show (w.alloc (.cells (cW D P) 27)).heap.size=w.heap.size+1 by simp] at h9)
 have hb0:Below w w W:=by rw [hW];exact aB (aB (aB (Below.refl _ _)))
 clear hW;refine nm (w.heap.size+1+1) fun gr hgr=>?_;refine nm (w.heap.size+1) fun gm hgm=>?_;refine nm w.heap.size fun gw hgw=>?_;rw [←hgr] at HR;rw [←hgm] at HBM;have hgr3:gr=w.heap.size+2:=by rw [hgr]
 have HW0:Hid (Blk W gw 27 (cW D P)):=ħ (by rw [hgw];exact HW00.out);clear HW00
 try rw [←hgr]
 try rw [←hgm]
 try rw [←hgr3]
 have hE:(Value.pointer (some ⟨w,0,none⟩))=.pointer (some ⟨gw,0,none⟩):=by rw [hgw]
 try simp only [hE]
 have hgmr:gm<gr:=by omega
 have hgwm:gw<gm:=by omega
 have hgww:w.heap.size≤gw:=by omega
 clear hgr hgm hgr3 hgw hE;refine wp_region_list ?_;simp only [List.append_eq,List.append,List.cons_append,List.nil_append,List.toList_toArray];cases ym
 · obtain rfl:y=1:=by rw [←HY.out];simp
   refine lm HW0.out.rng underlying27 ?_;refine wpList_plain rfl (fun K hK=>?_);go_simp;refine (dK P D false _ (HWK.out.up hb0) HMY.out).mono ?_;rintro e w1 ⟨rfl,hb1⟩;dsimp only;refine hK _ _ ?_;clear hK K;refine sp ?_;have HW1:=ħ (HW0.out.up hb1);have HB1:=ħ (HBM.out.up hb1);have HR1:=ħ (HR.out.up hb1);have hb01:=aA hb0 hb1;clear hb1
   iterate 2 (refine pl ?_)
   refine sg ?_;refine sg ?_;refine sg ?_;refine sg ?_;refine sg ?_
   iterate 2 (refine pl ?_)
   refine sg ?_;refine sg ?_;refine sg ?_;refine sg ?_;refine sg ?_
   iterate 2 (refine pl ?_)
   refine wpList_nil ?_;rename_i Ka hKa;refine hKa _ _ ?_;clear hKa Ka;have hRl:=HR1.out.lt;have hRf:=HR1.out.frozen;obtain ⟨r_0,r_1,r_2,r_3,r_4,r_5,r_6,r_7,r_8⟩:=bx9 HR1.out.box;go_wp2_with fail
   exact bodyPost_ret (v:=.tuple #[.agg cZ,n0,.int .i64 1]) y80 rfl ⟨rfl,by (have hbe:=hb01;repeat (first|(with_reducible exact hbe)|((with_reducible refine iC ?_ ?_);rotate_left;omega)))⟩
 refine lm HW0.out.rng underlying27 ?_;refine wpList_plain rfl (fun K hK=>?_);go_simp;refine (dK P D true _ (HWK.out.up hb0) HMY.out).mono ?_;rintro e w1 ⟨rfl,hb1⟩;dsimp only;refine hK _ _ ?_;clear hK K;refine sp ?_;have HW1:=ħ (HW0.out.up hb1);have HB1:=ħ (HBM.out.up hb1);have HR1:=ħ (HR.out.up hb1);have hb01:=aA hb0 hb1;clear hb1
 iterate 2 (refine pl ?_)
 cases yb
 · obtain rfl:y=1:=by rw [←HY.out];simp
   refine lm HB1.out.rng underlying49 ?_;refine pg ?_;refine tg fun K hK=>?_;have r1:=HW1.out.box.2 1 _ rfl;go_simp;refine hK _ _ ?_;clear hK K;clear r1;refine sp ?_;refine tg fun K hK=>?_;go_simp;refine (pZ ⟨⟨bA,bn,bc⟩,⟨⟨xA,xn,xc⟩,⟨yA,yn,yc⟩⟩,⟨⟨⟨cA,cn,cd⟩,⟨dA,dn,dc⟩⟩,⟨sA,sn,sc⟩⟩,⟨zA,zn,zc⟩⟩ ⟨ki,fr,tt,di,b,hd,cc,ds⟩ D.nodes false _ (HMM.out.up hb01) HBY.out).mono ?_;rintro e w2 ⟨rfl,hb2⟩;dsimp only;refine hK _ _ ?_;clear hK K;refine sp ?_;have HW2:=ħ (HW1.out.up hb2);have HB2:=ħ (HB1.out.up hb2);have HR2:=ħ (HR1.out.up hb2);have hb02:=aA hb01 hb2;clear hb2
   iterate 3 (first|refine pl ?_|refine pg ?_)
   refine sg ?_;refine sg ?_;refine sg ?_;refine sg ?_;refine sg ?_
   iterate 2 (refine pl ?_)
   refine wpList_nil ?_;rename_i Ka hKa;refine hKa _ _ ?_;clear hKa Ka;have hRl:=HR2.out.lt;have hRf:=HR2.out.frozen;obtain ⟨r_0,r_1,r_2,r_3,r_4,r_5,r_6,r_7,r_8⟩:=bx9 HR2.out.box;go_wp2_with fail
   exact bodyPost_ret (v:=.tuple #[.agg cZ,n0,.int .i64 1]) y80 rfl ⟨rfl,by (have hbe:=hb02;repeat (first|(with_reducible exact hbe)|((with_reducible refine iC ?_ ?_);rotate_left;omega)))⟩
 refine lm HB1.out.rng underlying49 ?_;refine pg ?_;refine tg fun K hK=>?_;have r1:=HW1.out.box.2 1 _ rfl;go_simp;refine hK _ _ ?_;clear hK K;clear r1;refine sp ?_;refine tg fun K hK=>?_;go_simp;refine (pZ ⟨⟨bA,bn,bc⟩,⟨⟨xA,xn,xc⟩,⟨yA,yn,yc⟩⟩,⟨⟨⟨cA,cn,cd⟩,⟨dA,dn,dc⟩⟩,⟨sA,sn,sc⟩⟩,⟨zA,zn,zc⟩⟩ ⟨ki,fr,tt,di,b,hd,cc,ds⟩ D.nodes true _ (HMM.out.up hb01) HBY.out).mono ?_;rintro e w2 ⟨rfl,hb2⟩;dsimp only;refine hK _ _ ?_;clear hK K;refine sp ?_;have HW2:=ħ (HW1.out.up hb2);have HB2:=ħ (HB1.out.up hb2);have HR2:=ħ (HR1.out.up hb2);have hb02:=aA hb01 hb2;clear hb2
 iterate 3 (first|refine pl ?_|refine pg ?_)
 obtain ⟨yt,hd1⟩:∃yt,(tt != D.id)=yt:=⟨_,rfl⟩;refine pg ?_;refine tg fun K hK=>?_;have r2:=HB2.out.box.2 2 _ rfl;go_simp;refine hK _ _ ?_;clear hK K;clear r2;refine sp ?_;refine pg ?_;refine tg fun K hK=>?_;have r0:=HW2.out.box.2 0 _ rfl;go_simp;refine hK _ _ ?_;clear hK K;clear r0;refine sp ?_
 iterate 3 (first|refine pl ?_|refine pg ?_)
 refine wpList_nil ?_;rename_i Ka hKa;refine hKa _ _ ?_;clear hKa Ka;cases yt
 · have ht:tt=D.id:=by simpa using hd1
   have hk4:cQ [1,2,3,7] ki=false:=by
    cases e:cQ [1,2,3,7] ki
    · rfl
    · have g:=FQ.1 e;unfold jC at g;exact absurd (by rw [←HY.out,if_pos (by exact ⟨rfl,rfl,ht⟩),if_pos g]) HY0.out
   obtain rfl:y=10:=by
    rw [←HY.out,if_pos (by exact ⟨rfl,rfl,ht⟩),if_neg];intro g;have:=FQ.2 (show jC ki from g);rw [hk4] at this;cases this
   have HKM:=ħ hk4;clear hk4;have m0:=HB2.out.box.2 0 _ rfl;go_upto_region 4 with (go_at_call 95;(with_reducible refine (uW ki false _ HKM.out).mono ?_);rintro e w3 ⟨rfl,hb3⟩)
   have hRl:=(HR2.out.up hb3).lt;have hRf:=(HR2.out.up hb3).frozen;obtain ⟨r_0,r_1,r_2,r_3,r_4,r_5,r_6,r_7,r_8⟩:=bx9 ((HR2.out.up hb3).box);have hb03:=aA hb02 hb3;go_wp2_with fail
   exact bodyPost_ret (v:=.tuple #[.agg cZ,n0,.int .i64 10]) y80 rfl ⟨rfl,by (have hbe:=hb03;repeat (first|(with_reducible exact hbe)|((with_reducible refine iC ?_ ?_);rotate_left;omega)))⟩
 · have ht:¬tt=D.id:=by simpa using hd1
   obtain rfl:y=1:=by rw [←HY.out,if_neg (fun g=>ht g.2.2)]
   have hRl:=HR2.out.lt;have hRf:=HR2.out.frozen;obtain ⟨r_0,r_1,r_2,r_3,r_4,r_5,r_6,r_7,r_8⟩:=bx9 HR2.out.box;go_wp2_with fail
   exact bodyPost_ret (v:=.tuple #[.agg cZ,n0,.int .i64 1]) y80 rfl ⟨rfl,by (have hbe:=hb02;repeat (first|(with_reducible exact hbe)|((with_reducible refine iC ?_ ?_);rotate_left;omega)))⟩
theorem Bw (P:aF) (D:aD) (Pm:bQ) (M:aY) (D':aD) (L':List aY) (w:World) (h:bG w P D) (hs:dY D) (hp:eO w Pm M) (hk:pU M.ki) (hm:dZ D=true) (hb:kI M D.nodes=true) (ht:M.tt=D.id)
 (hgot:∀P1 u,Below w w u→aX u w.heap.size P1 D→Calls prog 96 #[P1.val D,M18 Pm M] u fun e w'=>∃P' A n c,e=.returned (.tuple #[P'.val D',.slice A n c])∧aX w' w.heap.size P' D'∧dH w' u.heap.size (.slice A n c) L'∧Below u u w') :
 Calls prog 51 #[P.val D,M18 Pm M] w fun e w'=>∃P' A n c,e=.returned (.tuple #[P'.val D',.slice A n c,z0])∧aX w' w.heap.size P' D'∧dH w' w.heap.size (.slice A n c) L'∧Below w w w':=by
 obtain ⟨⟨bA,bn,bc⟩,⟨⟨xA,xn,xc⟩,⟨yA,yn,yc⟩⟩,⟨⟨⟨cA,cn,cd⟩,⟨dA,dn,dc⟩⟩,⟨sA,sn,sc⟩⟩,⟨zA,zn,zc⟩⟩:=Pm;obtain ⟨ki,fr,tt,di,b,hd,cc,ds⟩:=M;have HWK:=ħ h;have HMM:=ħ hp;have HK4:=ħ hk;dsimp only at hk ht;have HMY:=ħ hm;have HBY:=ħ hb;have HS:=ħ hs;have HGOT:=ħ hgot;have hd1:(tt != D.id)=false:=by simp [ht]
 clear h hp hk hm hb ht hgot hs;show Calls prog 51 #[.agg (cW D P),.agg (cN ki fr tt di b hd cc bA bn bc xA xn xc yA yn yc cA cn cd dA dn dc sA sn sc zA zn zc)] w _;go_enter func51,ntmps51
 go_upto_region 1 with fail
 refine aW (fun W hW=>?_);have HW00:Hid (Blk W w.heap.size 27 (cW D P)):=ħ y32;have HBM:Hid (Blk W (w.heap.size+1) 49 (cN ki fr tt di b hd cc bA bn bc xA xn xc yA yn yc cA cn cd dA dn dc sA sn sc zA zn zc)):=ħ (by rw [hW];exact (Blk.new1 w 27 49 (cW D P) (cN ki fr tt di b hd cc bA bn bc xA xn xc yA yn yc cA cn cd dA dn dc sA sn sc zA zn zc)).up (aB (Below.refl _ _)))
 have HR:Hid (Blk W (w.heap.size+1+1) 27 cZ):=ħ (by
  rw [hW];have h9:=Blk.new1 (w.alloc (.cells (cW D P) 27)) 49 27 (cN ki fr tt di b hd cc bA bn bc xA xn xc yA yn yc cA cn cd dA dn dc sA sn sc zA zn zc) cZ
  rwa [show (w.alloc (.cells (cW D P) 27)).heap.size=w.heap.size+1 by simp] at h9)
 have hb0:Below w w W:=by rw [hW];exact aB (aB (aB (Below.refl _ _)))
 clear hW;refine nm (w.heap.size+1+1) fun gr hgr=>?_;refine nm (w.heap.size+1) fun gm hgm=>?_;refine nm w.heap.size fun gw hgw=>?_;rw [←hgr] at HR;rw [←hgm] at HBM;have hgr3:gr=w.heap.size+2:=by rw [hgr]
 have HW0:Hid (Blk W gw 27 (cW D P)):=ħ (by rw [hgw];exact HW00.out);clear HW00
 try rw [←hgr]
 try rw [←hgm]
 try rw [←hgr3]
 have hE:(Value.pointer (some ⟨w,0,none⟩))=.pointer (some ⟨gw,0,none⟩):=by rw [hgw]
 try simp only [hE]
 have hgmr:gm<gr:=by omega
 have hgwm:gw<gm:=by omega
 have hgww:w.heap.size≤gw:=by omega
 clear hgr hgm hgr3 hgw hE;refine wp_region_list ?_;simp only [List.append_eq,List.append,List.cons_append,List.nil_append,List.toList_toArray];refine lm HW0.out.rng underlying27 ?_;refine wpList_plain rfl (fun K hK=>?_);go_simp;refine (dK P D true _ (HWK.out.up hb0) HMY.out).mono ?_;rintro e w1 ⟨rfl,hb1⟩;dsimp only;refine hK _ _ ?_;clear hK K;refine sp ?_;have HW1:=ħ (HW0.out.up hb1);have HB1:=ħ (HBM.out.up hb1);have HR1:=ħ (HR.out.up hb1);have hb01:=aA hb0 hb1;clear hb1
 iterate 2 (refine pl ?_)
 refine lm HB1.out.rng underlying49 ?_;refine pg ?_;refine tg fun K hK=>?_;have r1:=HW1.out.box.2 1 _ rfl;go_simp;refine hK _ _ ?_;clear hK K;clear r1;refine sp ?_;refine tg fun K hK=>?_;go_simp;refine (Ci ⟨⟨bA,bn,bc⟩,⟨⟨xA,xn,xc⟩,⟨yA,yn,yc⟩⟩,⟨⟨⟨cA,cn,cd⟩,⟨dA,dn,dc⟩⟩,⟨sA,sn,sc⟩⟩,⟨zA,zn,zc⟩⟩ ⟨ki,fr,tt,di,b,hd,cc,ds⟩ D.nodes true _ (HMM.out.up hb01) HK4.out HBY.out).mono ?_;rintro e w2 ⟨rfl,hb2⟩;dsimp only;refine hK _ _ ?_;clear hK K;refine sp ?_;have HW2:=ħ (HW1.out.up hb2);have HB2:=ħ (HB1.out.up hb2);have HR2:=ħ (HR1.out.up hb2);have hb02:=aA hb01 hb2;clear hb2
 iterate 4 (first|refine pl ?_|refine pg ?_)
 refine tg fun K hK=>?_;have r2:=HB2.out.box.2 2 _ rfl;go_simp;refine hK _ _ ?_;clear hK K;clear r2;refine sp ?_;refine pg ?_;refine tg fun K hK=>?_;have r0:=HW2.out.box.2 0 _ rfl;go_simp;refine hK _ _ ?_;clear hK K;clear r0;refine sp ?_
 iterate 3 (first|refine pl ?_|refine pg ?_)
 refine wpList_nil ?_;rename_i Ka hKa;refine hKa _ _ ?_;clear hKa Ka;have m0:=HB2.out.box.2 0 _ rfl;go_upto_region 5 with (go_at_call 95;(with_reducible refine (uW ki true _ (FQ.2 HK4.out.in4)).mono ?_);rintro e w3 ⟨rfl,hb3⟩)
 have HW3:=ħ (HW2.out.up hb3);have HB3:=ħ (HB2.out.up hb3);have HR3:=ħ (HR2.out.up hb3);have hb03:=aA hb02 hb3;clear m0 hb3 HW2 HB2 HR2 HW1 HB1 HR1 HW0 HBM HR hb0 hb01 hb02;obtain ⟨S,hSd⟩:∃S:World→Prop,S=fun Q=>Q.rangeAt gm 0 (cN ki fr tt di b hd cc bA bn bc xA xn xc yA yn yc cA cn cd dA dn dc sA sn sc zA zn zc):=⟨_,rfl⟩;have hS1:∀Q,S Q→Q.rangeAt gm 0 (cN ki fr tt di b hd cc bA bn bc xA xn xc yA yn yc cA cn cd dA dn dc sA sn sc zA zn zc):=fun Q h=>by rw [hSd] at h;exact h
 have hS:∀Q,Below w3 w3 Q→S Q:=fun Q hQ=>by rw [hSd];exact (HB3.out.up hQ).rng
 have hS5:∀Q,S Q→∀b0 b1 b2 b3 b4 b5 b6 b7 b8:Value,S (kA Q gw b0 b1 b2 b3 b4 b5 b6 b7 b8):=fun Q h b0 b1 b2 b3 b4 b5 b6 b7 b8=>by
  rw [hSd] at h ⊢;have one:∀(Q:World) (o:Nat) (u:Value),Q.rangeAt gm 0 (cN ki fr tt di b hd cc bA bn bc xA xn xc yA yn yc cA cn cd dA dn dc sA sn sc zA zn zc)→(Q.setCell ⟨gw,o,none⟩ u).rangeAt gm 0 (cN ki fr tt di b hd cc bA bn bc xA xn xc yA yn yc cA cn cd dA dn dc sA sn sc zA zn zc):=fun Q o u h j v hv=>(World.cell?_setCell_other _ _ _ _ y15).trans (h j v hv);exact one _ _ _ (one _ _ _ (one _ _ _ (one _ _ _ (one _ _ _ (one _ _ _ (one _ _ _ (one _ _ _ (one _ _ _ h))))))))
 clear hSd;have hbd:=bdr w3;refine wp_region_held_drew (S:=S) y8 (hS _ hbd) (fun hHeld=>?_);have hZ:=hHeld;generalize w3.drew=Z at *;refine ld 2 36 hS1 underlying49 ?_;refine ry 0 fun K hK=>?_;have h9:=(HW3.out.up (hbd)).box;obtain ⟨q0,q1,q2,q3,q4,q5,q6,q7,q8⟩:=bx9 h9;clear h9;go_simp;clear q0 q1 q2 q3 q4 q5 q6 q7 q8;refine hkq hK (hS _ (hbd)) fun hHeld=>?_;clear hK K;refine ry 1 fun K hK=>?_;go_simp;(go_at_call 89;refine (gU P D _ (HWK.out.up (aA hb03 (hbd))) HS.out).mono ?_;rintro e w4 ⟨⟨⟨oA2,on2,oc2⟩,⟨tA2,tn2,tc2⟩,⟨eA2,en2,ec2⟩,⟨rA2,rn2,rc2⟩⟩,he4,hO4,-,hb4⟩;simp only [aF.val] at he4;subst he4)
 have hb4':=aA (hbd) hb4;have HO4:=ħ (hO4.mono (B':=w.heap.size) (Nat.le_trans hb03.size (hbd).size));refine hkq hK (hS _ hb4') fun hHeld=>?_;clear hK K;refine ry 3 fun K hK=>?_;go_simp;(go_at_call 96;refine (HGOT.out ⟨⟨oA2,on2,oc2⟩,⟨tA2,tn2,tc2⟩,⟨eA2,en2,ec2⟩,⟨rA2,rn2,rc2⟩⟩ _ (aA hb03 (hb4')) HO4.out).mono ?_;rintro e w5 ⟨⟨⟨oA3,on3,oc3⟩,⟨tA3,tn3,tc3⟩,⟨eA3,en3,ec3⟩,⟨rA3,rn3,rc3⟩⟩,A,n,c,he5,hO5,hM5,hb5⟩;simp only [aF.val] at he5;subst he5)
 have hb5':=aA (hb4') hb5;have HO5:=ħ hO5;have HM5:=ħ (hM5.mono (B':=w.heap.size) (Nat.le_trans hb03.size (hb4').size));refine hkq hK (hS _ hb5') fun hHeld=>?_;clear hK K;refine tk 4 33 ?_;refine tk 5 38 ?_;refine tk 6 39 ?_;refine ry 7 fun K hK=>?_;have hVz:=HW3.out.up (hb5');have qf:=hVz.frozen;have ql:=hVz.lt;have h9:=hVz.box;obtain ⟨q0,q1,q2,q3,q4,q5,q6,q7,q8⟩:=bx9 h9;clear h9;go_simp;clear qf ql q0 q1 q2 q3 q4 q5 q6 q7 q8;have hW9:=gF hVz rfl (.int .i64 D'.id) (.int .i64 D'.nodes) (.int .i64 D'.next) (.slice oA3 on3 oc3) (.int .i64 D'.age) (.int .i64 D'.clock) (.slice tA3 tn3 tc3) (.slice eA3 en3 ec3) (.slice rA3 rn3 rc3);have htz:=aC.sets9 hVz (.int .i64 D'.id) (.int .i64 D'.nodes) (.int .i64 D'.next) (.slice oA3 on3 oc3) (.int .i64 D'.age) (.int .i64 D'.clock) (.slice tA3 tn3 tc3) (.slice eA3 en3 ec3) (.slice rA3 rn3 rc3);have hs6:=hS5 _ (hS _ (hb5')) (.int .i64 D'.id) (.int .i64 D'.nodes) (.int .i64 D'.next) (.slice oA3 on3 oc3) (.int .i64 D'.age) (.int .i64 D'.clock) (.slice tA3 tn3 tc3) (.slice eA3 en3 ec3) (.slice rA3 rn3 rc3);have hb6:=eX (aA hb03 (hb5')) hgww (.int .i64 D'.id) (.int .i64 D'.nodes) (.int .i64 D'.next) (.slice oA3 on3 oc3) (.int .i64 D'.age) (.int .i64 D'.clock) (.slice tA3 tn3 tc3) (.slice eA3 en3 ec3) (.slice rA3 rn3 rc3);refine hkq hK (hs6) fun hHeld=>?_;clear hK K;refine tk 8 7 ?_;refine wz ?_;refine aW (fun V hV=>?_);rw [←hV] at hW9 htz hb6;have hR6:=(HR3.out.up (hb5'));have HR6:Hid (Blk V gr 27 cZ):=ħ (by rw [hV];exact Blk.sets9 hR6 y2 (.int .i64 D'.id) (.int .i64 D'.nodes) (.int .i64 D'.next) (.slice oA3 on3 oc3) (.int .i64 D'.age) (.int .i64 D'.clock) (.slice tA3 tn3 tc3) (.slice eA3 en3 ec3) (.slice rA3 rn3 rc3));have HW6:=ħ hW9;have HO6:=ħ (HO5.out.tk htz aU);have HM6:=ħ (HM5.out.tk htz aU);clear hV hR6 hW9 htz hs6 hHeld hZ hb5' hb5 hb4' hb4 hO4 hO5 hM5 hS hS1 hS5 HO4 HO5 HM5 HR3 HW3 HB3;have h9:=HW6.out.box;obtain ⟨q0,q1,q2,q3,q4,q5,q6,q7,q8⟩:=bx9 h9;have h8:=HR6.out.box;obtain ⟨p0,p1,p2,p3,p4,p5,p6,p7,p8⟩:=bx9 h8;have hRl:=HR6.out.lt;have hRf:=HR6.out.frozen;have hWl:=HW6.out.lt;clear h9 h8;go_wp2_with fail
 have hR7:=gF HR6.out rfl (.int .i64 D'.id) (.int .i64 D'.nodes) (.int .i64 D'.next) (.slice oA3 on3 oc3) (.int .i64 D'.age) (.int .i64 D'.clock) (.slice tA3 tn3 tc3) (.slice eA3 en3 ec3) (.slice rA3 rn3 rc3);have htz:=aC.sets9 HR6.out (.int .i64 D'.id) (.int .i64 D'.nodes) (.int .i64 D'.next) (.slice oA3 on3 oc3) (.int .i64 D'.age) (.int .i64 D'.clock) (.slice tA3 tn3 tc3) (.slice eA3 en3 ec3) (.slice rA3 rn3 rc3);obtain ⟨r_0,r_1,r_2,r_3,r_4,r_5,r_6,r_7,r_8⟩:=bx9 hR7.box;exact bodyPost_ret (v:=.tuple #[.agg (cV D' oA3 on3 oc3 tA3 tn3 tc3 eA3 en3 ec3 rA3 rn3 rc3),.slice A n c,z0]) (by simp [results,results51,go_sem,r_0,r_1,r_2,r_3,r_4,r_5,r_6,r_7,r_8]) rfl ⟨⟨⟨oA3,on3,oc3⟩,⟨tA3,tn3,tc3⟩,⟨eA3,en3,ec3⟩,⟨rA3,rn3,rc3⟩⟩,A,n,c,rfl,HO6.out.tk htz aU,HM6.out.tk htz aU,eX hb6 y2 (.int .i64 D'.id) (.int .i64 D'.nodes) (.int .i64 D'.next) (.slice oA3 on3 oc3) (.int .i64 D'.age) (.int .i64 D'.clock) (.slice tA3 tn3 tc3) (.slice eA3 en3 ec3) (.slice rA3 rn3 rc3)⟩
theorem Ff {l:List Int} {n:Int} (h:dO l n):mH l:=fun j hj=>h.1 j (j+1) y2 hj
theorem DI (P:aF) (D:aD) (Pm:bQ) (M:aY) (B:Nat) (w:World) (hO:aX w B P D) (hs:dY D) (hak:∀x∈D.wa,x.ak.length≤50000) (hre:D.re.length+D.wa.length≤800000000) (hfr:1≤M.fr∧M.fr≤D.nodes) (hB:B≤w.heap.size) (hm:dZ D=true) (hk:M.ki=2) :
 Calls prog 96 #[P.val D,M18 Pm M] w fun e w'=>∃P' A n c,e=.returned (.tuple #[P'.val (Br D M.fr M.di),.slice A n c])∧aX w' B P' (Br D M.fr M.di)∧dH w' w.heap.size (.slice A n c) []∧Below w w w':=by
 obtain ⟨⟨bA,bn,bc⟩,⟨⟨xA,xn,xc⟩,⟨yA,yn,yc⟩⟩,⟨⟨⟨cA,cn,cd⟩,⟨dA,dn,dc⟩⟩,⟨sA,sn,sc⟩⟩,⟨zA,zn,zc⟩⟩:=Pm;obtain ⟨ki,fr,tt,di,b,hd,cc,ds⟩:=M;dsimp only at hk hfr;subst hk;have HM:=ħ (cX.1 hm);have HW:=ħ (hO.work hs);have HO0:=ħ hO;have HS:=ħ hs;refine mn (bB D.he di) fun lo hlo=>?_;refine mn (dL D.he di) fun yh hyh=>?_;have HLO:=ħ hlo;have HYH:=ħ hyh;have HEN:Hid (D.he.length=P.he.n):=ħ HW.out.he.1;have hen:P.he.n≤1024:=by rw [←HEN.out];exact HM.out.2.2.2.2.2.2.2.1
 have HSO:Hid (dQ D.he):=ħ (fD.1 HM.out.2.2.2.2.2.2.2.2.2.2.1).sorted;have HSW:Hid (gK D.wa):=ħ (WaitsOk.sorted HM.out.2.2.2.2.2.2.2.2.2.1);have HRI:Hid (∀x∈D.wa,dO x.ak D.nodes):=ħ (wI HM.out.2.2.2.2.2.2.2.2.2.1);have HRS:Hid (∀x∈D.wa,mH x.ak):=ħ (fun x hx=>Ff (HRI.out x hx));have HAK:Hid (∀x∈D.wa,x.ak.length≤1000000):=ħ (fun x hx=>Nat.le_trans (hak x hx) y5);have HBW:Hid (nU D.wa):=ħ hs.wa;have HRI2:=ħ (BP (d:=di) HRI.out hfr.1 hfr.2);have HBG2:=ħ (CO (who:=fr) (d:=di) HBW.out HAK.out);have HRL:Hid (D.re.length+(iR D.wa fr di).length≤800000000):=ħ (by rw [sD];exact hre);have hn1:1≤D.nodes:=(gR HM.out.1).1;have hn16:D.nodes≤16:=(gR HM.out.1).2;dsimp only;clear hO hs hm hlo hyh hak hre hfr;show Calls prog 96 #[.agg (cW D P),.agg (cN (2:Int) fr tt di b hd cc bA bn bc xA xn xc yA yn yc cA cn cd dA dn dc sA sn sc zA zn zc)] w _;go_enter func96,ntmps96
 go_upto_region 2 with fail
 refine aW (fun W hW=>?_);have HBM:Hid (Blk W (w.heap.size+1) 49 (cN (2:Int) fr tt di b hd cc bA bn bc xA xn xc yA yn yc cA cn cd dA dn dc sA sn sc zA zn zc)):=ħ (by rw [hW];exact ((Blk.new1 w 27 49 (cW D P) (cN (2:Int) fr tt di b hd cc bA bn bc xA xn xc yA yn yc cA cn cd dA dn dc sA sn sc zA zn zc)).up (aB (Below.refl _ _))).up (aB (Below.refl _ _)))
 have HR:Hid (Blk W (w.heap.size+1+1) 27 cZ):=ħ (by
  rw [hW];have h9:=Blk.new1 (w.alloc (.cells (cW D P) 27)) 49 27 (cN (2:Int) fr tt di b hd cc bA bn bc xA xn xc yA yn yc cA cn cd dA dn dc sA sn sc zA zn zc) cZ;rw [show (w.alloc (.cells (cW D P) 27)).heap.size=w.heap.size+1 by simp] at h9;exact h9.up (aB (Below.refl _ _)))
 have HG:Hid (Blk W (w.heap.size+1+1+1) 142 (cS D P none 0 0)):=ħ (by
  rw [hW];have h9:=Blk.new1 ((w.alloc (.cells (cW D P) 27)).alloc (.cells (cN (2:Int) fr tt di b hd cc bA bn bc xA xn xc yA yn yc cA cn cd dA dn dc sA sn sc zA zn zc) 49)) 27 142 cZ (cS D P none 0 0)
  rwa [show ((w.alloc (.cells (cW D P) 27)).alloc (.cells (cN (2:Int) fr tt di b hd cc bA bn bc xA xn xc yA yn yc cA cn cd dA dn dc sA sn sc zA zn zc) 49)).heap.size=w.heap.size+1+1 by simp] at h9)
 have hbW:Below w w W:=by rw [hW];exact aB (aB (aB (aB (Below.refl _ _))))
 clear hW;refine nm (w.heap.size+1+1+1) fun gs hgs=>?_;refine nm (w.heap.size+1+1) fun gr hgr=>?_;refine nm (w.heap.size+1) fun gm hgm=>?_;rw [←hgs] at HG;rw [←hgr] at HR;rw [←hgm] at HBM;have hgs3:gs=w.heap.size+3:=by rw [hgs]
 have hgr3:gr=w.heap.size+2:=by rw [hgr]
 try rw [←hgs]
 try rw [←hgr]
 try rw [←hgm]
 try rw [←hgs3]
 try rw [←hgr3]
 have hgmr:gm<gr:=by omega
 have hgrs:gr<gs:=by omega
 have hgwm:w.heap.size<gm:=by omega
 clear hgs hgr hgm hgs3 hgr3;obtain ⟨S,hSd⟩:∃S:World→Prop,S=fun Q=>Q.cell? ⟨gs,7,none⟩=some (.slice P.he.A P.he.n P.he.c)∧Q.cell? ⟨gm,3,none⟩=some (.int .i64 di):=⟨_,rfl⟩;have hS1:∀Q,S Q→Q.cell? ⟨gs,7,none⟩=some (.slice P.he.A P.he.n P.he.c):=fun Q h=>by rw [hSd] at h;exact h.1
 have hS2:∀Q,S Q→Q.cell? ⟨gm,3,none⟩=some (.int .i64 di):=fun Q h=>by rw [hSd] at h;exact h.2
 have hS:∀Q,Below W W Q→S Q:=fun Q hQ=>by rw [hSd];exact ⟨(HG.out.up hQ).box.2 7 _ rfl,(HBM.out.up hQ).box.2 3 _ rfl⟩
 clear hSd;refine hdq hS fun hHeld=>?_;have hbd:=bdr W;have hZ:=hHeld;generalize W.drew=Z at *;refine tk 0 17 ?_;refine tk 1 18 ?_;refine tk 2 19 ?_;refine tk 3 20 ?_;refine tq 4 21 hS1 ?_;refine tk 5 22 ?_;refine tq 6 23 hS2 ?_;refine ry 7 fun K hK=>?_;go_simp;(go_at_call 118;refine (gZ P.he.A P.he.n P.he.c D.he di lo yh _ (HW.out.he.up (aA hbW hbd)) HSO.out y2 HLO.out HYH.out).mono ?_;rintro e w5 ⟨rfl,hb5⟩)
 refine hkq hK (hS _ (aA hbd hb5)) fun hHeld=>?_;clear hK K;refine tk 8 16 ?_;refine tk 9 25 ?_;refine tk 10 26 ?_;refine tk 11 7 ?_;refine tk 12 8 ?_;refine wz ?_;refine nm w5 fun X hX=>?_;rw [←hX] at hb5 ⊢;have hbX0:=aA hbW (aA hbd hb5);have HGX:=ħ (HG.out.up (aA hbd hb5));have HMX:=ħ (HBM.out.up (aA hbd hb5));have HRX:=ħ (HR.out.up (aA hbd hb5));have hgs0:w.heap.size≤gs:=by omega
 have hBX:B≤X.heap.size:=Nat.le_trans hB hbX0.size;clear hX hb5 hbd hHeld hZ HG HBM HR hbW hS hS1 hS2;have m0:=HMX.out.box.2 0 _ rfl;have m1:=HMX.out.box.2 1 _ rfl;have m3:=HMX.out.box.2 3 _ rfl;have hml:=HMX.out.lt;have hsl:=HGX.out.lt;go_upto_region 20 with (go_at_call 134;refine (F0 gs B (.int .i64 D.id) (.int .i64 D.nodes) (.int .i64 D.next) (.slice P.op.A P.op.n P.op.c) (.int .i64 D.age) (.int .i64 D.clock) (.slice P.he.A P.he.n P.he.c) (.slice P.re.A P.re.n P.re.c) (.slice none 0 0) P.wa.A P.wa.n P.wa.c D.wa fr di X HGX.out hBX (HO0.out.up hbX0).wa HSW.out HBW.out HRS.out HAK.out).mono ?_;rintro e wy ⟨A3,n3,c3,rfl,hbt3,hG3,hW3⟩)
 clear m0 m1 m3 hml;have htY:aC 142 X wy:=aC.of_but HGX.out hbt3;have HRY:=ħ (HRX.out.tk htY y5);have hgs0x:gs≤X.heap.size:=Nat.le_of_lt HGX.out.lt;have hbY:Below w w wy:=hbX0.trans ((hbt3.below hgs0x).mono hgs0);have hBY:B≤wy.heap.size:=Nat.le_trans hBX hbt3.size;have HOY:=ħ ((HO0.out.up hbX0).tk htY eF);have HGY:=ħ hG3;have HWY:=ħ hW3;clear hbt3 hG3 hW3 htY hbX0 HGX HMX HRX hBX hsl hgs0x;have hgl:=HGY.out.lt;go_upto_region 21 with (go_at_call 124;refine (B7 gs B P.op.A A3 P.he.A P.re.A none P.op.n P.op.c n3 c3 P.he.n P.he.c P.re.n P.re.c 0 0 ({D with wa:=iR D.wa fr di}:aD) wy HGY.out hBY HWY.out HOY.out.re HBG2.out HRL.out HRI2.out hn1 hn16).mono ?_;rintro e wk ⟨Xk,A1,n1,c1,A2,n2,c2,rfl,rfl,hbk,hwk,hrk⟩)
 clear hgl;have hGk:=HGY.out.up hbk;have hGk1:=hGk.set_ 6 (.slice A1 n1 c1);have HGZ:=ħ (hGk1.set_ 8 (.slice A2 n2 c2));have ht1:=aC.setg (o:=6) (u:=.slice A1 n1 c1) hGk;have ht2:=aC.setg (o:=8) (u:=.slice A2 n2 c2) hGk1;have ht12:=ht1.trans ht2;have htZ:=(aC.of_below hbk).trans ht12;have HRZ:=ħ (HRY.out.tk htZ y5);have hgw:w.heap.size≤gs:=hgs0;have hbZ:Below w w ((Xk.setCell ⟨gs,6,none⟩ (.slice A1 n1 c1)).setCell ⟨gs,8,none⟩ (.slice A2 n2 c2)):=((hbY.trans (hbk.mono hbY.size)).setCell (p:=⟨gs,6,none⟩) hgw _).setCell (p:=⟨gs,8,none⟩) hgw _;have hOZ0:=HOY.out.tk htZ eF;have HOZ:Hid (aX ((Xk.setCell ⟨gs,6,none⟩ (.slice A1 n1 c1)).setCell ⟨gs,8,none⟩ (.slice A2 n2 c2)) B ⟨P.op,⟨A1,n1,c1⟩,P.he,⟨A2,n2,c2⟩⟩ (Br D fr di)):=ħ ⟨hOZ0.op,hwk.tk ht12 eF,hOZ0.he,eS (show World.ownsRow _ B 3 1 _ _ _ from hrk.mono hBY) ht12 eF y5 y5⟩;rename_i K hK;exact jV gr gs D.id D.nodes D.next D.age D.clock P.op.A A1 P.he.A A2 none P.op.n P.op.c n1 c1 P.he.n P.he.c n2 c2 0 0 _ hK y2 HGZ.out HRZ.out (fun W' ht hbn'=>⟨⟨P.op,⟨A1,n1,c1⟩,P.he,⟨A2,n2,c2⟩⟩,none,0,0,rfl,HOZ.out.tk ht aU,dH.nil _ _,hbZ.trans (hbn' _ y2)⟩)
end Go.Proofs.YtgfakefcmbpboaaGreat
