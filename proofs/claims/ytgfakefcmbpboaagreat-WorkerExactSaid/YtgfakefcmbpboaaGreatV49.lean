/- Part 49 of what WorkerExact leans on. No conditions. -/
import Derived.Test.YtgfakefcmbpboaaGreatV28
import Derived.Test.YtgfakefcmbpboaaGreatV45
namespace Go.Proofs.YtgfakefcmbpboaaGreat
set_option linter.all false
set_option maxRecDepth 100000
set_option maxHeartbeats 64000000
open _root_.Go.Proofs.Tryz Go.RowKit
open Tok
theorem FV {l:List Int} {n:Int} (h:dO l n):mH l:=fun j hj=>h.1 j (j+1) y2 hj
theorem FL {a b:World} {g n:Nat} {rq:Option Nat} (h:KB a b g rq) (hn:n≤a.heap.size) (hg:n≤g) (hr:∀q,rq=some q→n≤q):Below n a b:=⟨h.os,h.tape,h.output,h.size,fun k hk=>h.block k y2 y2 (fun e=>by have:=hr k e;omega)⟩
theorem IH {l:List aV} (hs:gK l) {key:Int} {j:Nat} (hj:j<l.length) (e:(wth l j).di=key):eW l key=true∧eK l key=j:=by
 have hpos:eK l key=j:=sG _ l j y2 (fun t ht=>by have:=hs t j ht hj;rw [e] at this;exact this) (fun _=>by show ltI (wth l j).di key=false;rw [e];simp [ltI]);refine ⟨?_,hpos⟩;show dec _=true;exact bJ.2 (by rw [hpos];exact ⟨hj,e⟩)
noncomputable def fI (wa:List aV) (who d:Int) (k:Nat):List aV:=if eW wa d=true∧eK wa d<k then iR wa who d else wa
theorem Bn (wa:List aV) (who d:Int):fI wa who d 0=wa:=by unfold fI;rw [if_neg (fun h=>by have:=h.2;omega)]
theorem uE (wa:List aV) (who d:Int) (k:Nat):(fI wa who d k).length=wa.length:=by unfold fI;split;exact sD _ _ _;rfl
theorem FZ {wa:List aV} (hs:gK wa) {who d:Int} (k:Nat) (hk:k<wa.length):(fI wa who d k).getD k default=wth wa k:=by
 unfold fI;split
 · rename_i h;rw [sE rfl h.1];have e:=IX (l:=wa) (j:=k) (x:=⟨(wth wa (eK wa d)).di,iQ (wth wa (eK wa d)).ak who⟩) (iN rfl h.1).1;rw [if_neg (by have:=h.2;omega)] at e;exact e
 · rfl
theorem Ep {wa:List aV} {who d:Int} {k:Nat} (h:¬(wth wa k).di=d):fI wa who d (k+1)=fI wa who d k:=by
 unfold fI;by_cases h1:eW wa d=true∧eK wa d<k
 · rw [if_pos h1,if_pos ⟨h1.1,by have:=h1.2;omega⟩]
 · rw [if_neg h1,if_neg (fun h2=>h1 ⟨h2.1,by
    have h3:=(iN rfl h2.1).2;rcases Nat.lt_or_ge (eK wa d) k with g|g
    · exact g
    · have e:eK wa d=k:=by have:=h2.2;omega
      rw [e] at h3;exact absurd h3 h⟩)]
theorem Fl {wa:List aV} {who d:Int} {k:Nat} (h:eK wa d=k):fI wa who d k=wa:=by unfold fI;rw [if_neg (fun h2=>by have:=h2.2;omega)]
theorem Fk {wa:List aV} {who d:Int} {k:Nat} (hk:eW wa d=true) (h:eK wa d=k):fI wa who d (k+1)=wa.set k ⟨(wth wa k).di,iQ (wth wa k).ak who⟩:=by
 unfold fI;rw [if_pos ⟨hk,by omega⟩,sE h hk]
theorem Fj {wa:List aV} {who d:Int} {k:Nat} (h:wa.length=k):fI wa who d k=iR wa who d:=by
 unfold fI;by_cases h1:eW wa d=true
 · rw [if_pos ⟨h1,by have:=(iN rfl h1).1;omega⟩]
 · rw [if_neg (fun h2=>h1 h2.1),Cb (by simpa using h1)]
theorem Es {w:World} {B g c i:Nat} {ps:List Value} {l:List aV} {p:Value} {ak:List Int} (h:aP aN w B (.slice (some ⟨g,0,none⟩) l.length c) ps l) (hi:i<l.length) (hin:aE w B p ak) :
 aP aN (w.setCell ⟨g,i*2+1,none⟩ p) B (.slice (some ⟨g,0,none⟩) l.length c) (ps.set i p) (l.set i ⟨(wth l i).di,ak⟩):=by
 obtain ⟨h1,h2,h3⟩:=h;have a2:=Ay (u:=p) h1 (j:=i*2+1) (by show i*2+1<l.length*2;omega);have e1:(aO aN l ps).set (i*2+1) p=aO aN l (ps.set i p):=vC aN h2 hi (r:=1) y5 rfl
 have e2:aO aN (l.set i ⟨(wth l i).di,ak⟩) (ps.set i p)=aO aN l (ps.set i p):=yY aN (by simp [h2]) y17 (fun j hj=>by
  by_cases hji:j=i
  · subst hji;have:(l.set j ⟨(wth l j).di,ak⟩).getD j default=⟨(wth l j).di,ak⟩:=by simp [hj]
    rw [this];rfl
  · have:(l.set i ⟨(wth l i).di,ak⟩).getD j default=l.getD j default:=by
     simp only [List.getD_eq_getElem?_getD];rw [List.getElem?_set,if_neg (fun e=>hji e.symm)]
    rw [this])
 refine ⟨by rw [e2,← e1,List.length_set];exact a2,by simp [h2],fun j hj=>?_⟩;rw [List.length_set] at hj;have far:∀{q:Value} {m:List Int},aE w B q m→aE (w.setCell ⟨g,i*2+1,none⟩ p) B q m:=fun hq=>gT hq h1 y5 rfl;by_cases hji:j=i
 · subst hji;have g1:(l.set j ⟨(wth l j).di,ak⟩).getD j default=⟨(wth l j).di,ak⟩:=by simp [hj]
   have g2:(ps.set j p).getD j default=p:=by simp [show j<ps.length by omega]
   rw [g1,g2];exact far hin
 · have g1:(l.set i ⟨(wth l i).di,ak⟩).getD j default=l.getD j default:=by
    simp only [List.getD_eq_getElem?_getD];rw [List.getElem?_set,if_neg (fun e=>hji e.symm)]
   have g2:(ps.set i p).getD j default=ps.getD j default:=by
    simp only [List.getD_eq_getElem?_getD];rw [List.getElem?_set,if_neg (fun e=>hji e.symm)]
   rw [g1,g2];exact far (h3 j hj)
theorem Dp (P:aF) (D:aD) (Pm:bQ) (M:aY) (w:World) (h:bG w P D) (hs:dY D) (hp:eO w Pm M) (hak:∀x∈D.wa,x.ak.length≤50000) (hre:D.re.length+D.wa.length≤800000000) (hfr:1≤M.fr∧M.fr≤D.nodes) (hk:M.ki=2) (h4:pU M.ki) (hm:dZ D=true) (hb:kI M D.nodes=true) (ht:M.tt=D.id) :
 Calls prog 49 #[P.val D,M18 Pm M] w fun e w'=>∃gs P' A n c ps,e=.returned (.tuple #[.pointer (some ⟨gs,0,none⟩),z0])∧Blk w' gs 70 (cS D P' A n c)∧aX w' w.heap.size P' (Br D M.fr M.di)∧aP cT w' w.heap.size (.slice A n c) ps []∧w.heap.size≤gs∧Below w w w':=by
 obtain ⟨⟨bA,bn,bc⟩,⟨⟨xA,xn,xc⟩,⟨yA,yn,yc⟩⟩,⟨⟨⟨cA,cn,cd⟩,⟨dA,dn,dc⟩⟩,⟨sA,sn,sc⟩⟩,⟨zA,zn,zc⟩⟩:=Pm;obtain ⟨ki,fr,tt,di,b,hd,cc,ds⟩:=M;have HWK:=ħ h;have HMM:=ħ hp;have HK4:Hid (pU ki):=ħ h4;have HS:=ħ hs;dsimp only at hk ht hfr;have HBY:=ħ hb;have hd1:(tt != D.id)=false:=by simp [ht]
 have HM:=ħ (cX.1 hm);have HSW:Hid (gK D.wa):=ħ (WaitsOk.sorted HM.out.2.2.2.2.2.2.2.2.2.1);have HRI:Hid (∀x∈D.wa,dO x.ak D.nodes):=ħ (wI HM.out.2.2.2.2.2.2.2.2.2.1);have HAK:=ħ hak;have HRE:=ħ hre;have HFR:=ħ hfr;have HNS:Hid (isS D.nodes=true):=ħ HM.out.1;have hbwa:=hs.wa;have HBW:=ħ hbwa;dsimp only;have HK7:=ħ hk;clear h hp hb ht hm hs h4 hk hak hre hfr hbwa;show Calls prog 49 #[.agg (cW D P),.agg (cN ki fr tt di b hd cc bA bn bc xA xn xc yA yn yc cA cn cd dA dn dc sA sn sc zA zn zc)] w _;go_enter func49,ntmps49
 go_upto_region 1 with fail
 refine aW (fun W hW=>?_);have HA0:Hid (Blk W w.heap.size 27 (cW D P)):=ħ y32;have HB0:Hid (Blk W (w.heap.size+1) 49 (cN ki fr tt di b hd cc bA bn bc xA xn xc yA yn yc cA cn cd dA dn dc sA sn sc zA zn zc)):=ħ (by rw [hW];exact Blk.new1 w 27 49 (cW D P) (cN ki fr tt di b hd cc bA bn bc xA xn xc yA yn yc cA cn cd dA dn dc sA sn sc zA zn zc));have hbW:Below w w W:=by rw [hW];exact aB (aB (Below.refl _ _))
 clear hW;have hql:=HA0.out.lt;have hqb:=HA0.out.box;obtain ⟨q0,q1,q2,q3,q4,q5,q6,q7,q8⟩:=bx9 hqb;clear hqb;go_upto_region 2 with (go_at_call 17;refine (oF P D _ (HWK.out.up hbW) HS.out).mono ?_;rintro e w1 ⟨⟨⟨oA2,on2,oc2⟩,⟨tA2,tn2,tc2⟩,⟨eA2,en2,ec2⟩,⟨rA2,rn2,rc2⟩⟩,he1,hO1,⟨qw,hTW,hAPW⟩,hb1⟩;simp only [aF.val] at he1;subst he1)
 clear q0 q1 q2 q3 q4 q5 q6 q7 q8 hql;refine aW (fun W2 hW2=>?_);have HG:Hid (Blk W2 w1.heap.size 70 (cU D oA2 on2 oc2 tA2 tn2 tc2 eA2 en2 ec2 rA2 rn2 rc2 none 0 0)):=ħ y45;have hb2:Below w1 w1 W2:=by rw [hW2];exact aB (Below.refl _ _)
 clear hW2;refine nm w1.heap.size fun gs hgs=>?_;refine nm (w.heap.size+1) fun gm hgm=>?_;refine nm w.heap.size fun gw hgw=>?_;have hE:(Value.pointer (some ⟨w,0,none⟩))=.pointer (some ⟨gw,0,none⟩):=by rw [hgw]
 have hz1:w.heap.size+2≤w1.heap.size:=by have:=(HB0.out.up hb1).lt;omega
 have HW0:Hid (Blk W2 gw 27 (cW D P)):=ħ y83;have HBM:Hid (Blk W2 gm 49 (cN ki fr tt di b hd cc bA bn bc xA xn xc yA yn yc cA cn cd dA dn dc sA sn sc zA zn zc)):=ħ y84;have HO2:=ħ ((hO1.mono (B':=w.heap.size) hbW.size).up hb2);have hb0:Below w w W2:=aA (aA hbW hb1) hb2;rw [←hgs] at HG ⊢;rw [←hgm]
 try simp only [hE]
 have hgmr:gm<gs:=by omega
 have hgwm:gw<gm:=by omega
 have hgww:w.heap.size≤gw:=by omega
 have HTW2:Hid (aP aN W2 w.heap.size (.slice tA2 tn2 tc2) qw D.wa):=ħ ((aP.mono (show aP aN w1 W.heap.size (.slice tA2 tn2 tc2) qw D.wa from hTW) hbW.size).up hb2);have HAPW:Hid (iH qw D.wa (Value.slice rA2 rn2 rc2).ownBlock):=ħ hAPW;have hgs1:w1.heap.size≤gs:=by omega
 clear hTW hAPW;clear hgs hgm hgw hE HA0 HB0 hbW hb1 hb2 hO1 hz1;refine wp_region_list ?_;simp only [List.append_eq,List.append,List.cons_append,List.nil_append,List.toList_toArray];refine lm HBM.out.rng underlying49 ?_;refine pl ?_;refine wpList_plain rfl (fun K hK=>?_);have r1:=HW0.out.box.2 1 _ rfl;go_simp;refine hK _ _ ?_;clear hK K;clear r1;refine sp ?_;refine wpList_plain rfl (fun K hK=>?_);go_simp;refine (nI ⟨⟨bA,bn,bc⟩,⟨⟨xA,xn,xc⟩,⟨yA,yn,yc⟩⟩,⟨⟨⟨cA,cn,cd⟩,⟨dA,dn,dc⟩⟩,⟨sA,sn,sc⟩⟩,⟨zA,zn,zc⟩⟩ ⟨ki,fr,tt,di,b,hd,cc,ds⟩ D.nodes true _ (HMM.out.up hb0) HK4.out HBY.out).mono ?_;rintro e w3 ⟨rfl,hb3⟩;dsimp only;refine hK _ _ ?_;clear hK K;refine sp ?_;have HW3:=ħ (HW0.out.up hb3);have HB3:=ħ (HBM.out.up hb3);have HG3:=ħ (HG.out.up hb3);have HO3:=ħ (HO2.out.up hb3);have HTW3:=ħ (HTW2.out.up hb3);have hb03:=aA hb0 hb3;clear hb3 HW0 HBM HG HO2 hb0
 iterate 3 (first|refine pl ?_|refine pg ?_)
 refine tg fun K hK=>?_;have r2:=HB3.out.box.2 2 _ rfl;go_simp;refine hK _ _ ?_;clear hK K;clear r2;refine sp ?_;refine pg ?_;refine tg fun K hK=>?_;have r0:=HW3.out.box.2 0 _ rfl;go_simp;refine hK _ _ ?_;clear hK K;clear r0;refine sp ?_
 iterate 2 (first|refine pl ?_|refine pg ?_)
 refine wpList_nil ?_;rename_i Ka hKa;refine hKa _ _ ?_;clear hKa Ka;clear hd1 HTW2;have hk:=HK7.out;clear HK7;subst hk;have m0:=HB3.out.box.2 0 _ rfl;have hgl:=HB3.out.lt;go_wp2_with fail
 clear m0 hgl;have HTN:Hid (D.wa.length=tn2):=ħ (by obtain ⟨A',c',e',_⟩:=HTW3.out.read;injection e' with _ e2 _;exact e2.symm)
 go_loopw [7] (fun iv wr=>∃(k:Nat) (ps:List Value),k≤tn2∧iv=.int .i64 k∧Hid (Blk wr gs 70 (cU D oA2 on2 oc2 tA2 tn2 tc2 eA2 en2 ec2 rA2 rn2 rc2 none 0 0))∧Hid (Blk wr gm 49 (cN (2:Int) fr tt di b hd cc bA bn bc xA xn xc yA yn yc cA cn cd dA dn dc sA sn sc zA zn zc))∧Hid (aP aN wr w.heap.size (.slice tA2 tn2 tc2) ps (fI D.wa fr di k))∧Hid (iH ps (fI D.wa fr di k) (Value.slice rA2 rn2 rc2).ownBlock)∧Hid (bD wr w.heap.size (.slice oA2 on2 oc2) D.op)∧Hid (bL wr w.heap.size (.slice eA2 en2 ec2) D.he)∧Hid (aE wr w.heap.size (.slice rA2 rn2 rc2) D.re)∧Below w w wr) (fun iv _=>tn2-(intOf iv).toNat)
 case atStart=>exact ⟨0,qw,Nat.zero_le _,rfl,HG3,HB3,ħ (by rw [Bn];exact HTW3.out),ħ (by rw [Bn];exact HAPW.out),ħ HO3.out.op,ħ HO3.out.he,ħ HO3.out.re,hb03⟩
 case round=>
  clear HG3 HB3 HTW3 HO3 HW3;obtain ⟨k,ps,hk7,rfl,HGS,HBK,HTK,HAP,HOP,HHE,HRR,hbut⟩:=hrel
  (obtain ⟨wk,hwk⟩:∃x,x=wr:=⟨_,rfl⟩);subst hwk
  have g6:=HGS.out.box.2 6 _ rfl;have hgk:=HGS.out.lt;have htn8:tn2≤800000000:=by rw [←HTN.out];exact HBW.out.1
  by_cases hlt:k<tn2
  · skip
    obtain ⟨tb,P.he.A,htb1,htb2⟩:=qA (show World.ownsRow wk w.heap.size 56 2 (.slice tA2 tn2 tc2) tn2 (aO aN (fI D.wa fr di k) ps) from by have h8:=HTK.out.1;rw [uE,HTN.out] at h8;exact h8) y2;subst P.he.A;have hkl:k<D.wa.length:=by rw [HTN.out];exact hlt
    have hks:k<(fI D.wa fr di k).length:=by rw [uE];exact hkl
    have hrow:wk.ownsRow w.heap.size 56 2 (.slice (some ⟨tb,0,none⟩) tn2 tc2) tn2 (aO aN (fI D.wa fr di k) ps):=by have h8:=HTK.out.1;rw [uE,HTN.out] at h8;exact h8
    have HROW:=ħ hrow;obtain ⟨gg,fg⟩:=lQ hrow;have hwk:(fI D.wa fr di k).getD k default=wth D.wa k:=FZ HSW.out k hkl;have q0:wk.cell? ⟨tb,k*2,none⟩=some (.int .i64 (wth D.wa k).di):=gg _ _ (by rw [show k*2=k*aN.k+0 from rfl,cO aN HTK.out.2.1 (j:=k) (r:=0) hks y5,hwk];rfl);have hlk:(k:Int)<(tn2:Int):=by omega
    have m3:=HBK.out.box.2 3 _ rfl;have hml:=HBK.out.lt;have HGG:=ħ (And.intro gg fg);have HWK:=ħ hwk;have HKS:=ħ hks;clear gg hrow hwk hks;by_cases hd:(wth D.wa k).di=di
    · skip
      have hde:((wth D.wa k).di == di)=true:=by simp [hd]
      have hde3:decide ((wth D.wa k).di=di)=true:=by simp [hd]
      obtain ⟨hkh,hkp⟩:=IH HSW.out hkl hd;have HWA:Hid (fI D.wa fr di k=D.wa):=ħ (Fl hkp);have HSL:Hid (fI D.wa fr di (k+1)=D.wa.set k ⟨(wth D.wa k).di,iQ (wth D.wa k).ak fr⟩):=ħ (Fk hkh hkp);go_upto_region 15 with fail
      obtain ⟨S5,hSd5⟩:∃S:World→Prop,S=fun Q=>Q.cell? ⟨gs,6,none⟩=some (.slice (some ⟨tb,0,none⟩) tn2 tc2)∧Q.cell? ⟨gm,3,none⟩=some (.int .i64 di)∧Q.cell? ⟨tb,k*2,none⟩=some (.int .i64 (wth D.wa k).di):=⟨_,rfl⟩;have hS51:∀Q,S5 Q→Q.cell? ⟨gs,6,none⟩=some (.slice (some ⟨tb,0,none⟩) tn2 tc2):=fun Q h=>by rw [hSd5] at h;exact h.1
      have hS52:∀Q,S5 Q→Q.cell? ⟨gm,3,none⟩=some (.int .i64 di):=fun Q h=>by rw [hSd5] at h;exact h.2.1
      have hS53:∀Q,S5 Q→Q.cell? ⟨tb,k*2,none⟩=some (.int .i64 (wth D.wa k).di):=fun Q h=>by rw [hSd5] at h;exact h.2.2
      have hbd5:=bdr wk;have hS50:S5 wk.drew:=by rw [hSd5];exact ⟨(hbd5.cell (p:=⟨gs,6,none⟩) hgk).trans g6,(hbd5.cell (p:=⟨gm,3,none⟩) hml).trans m3,(hbd5.cell (p:=⟨tb,k*2,none⟩) htb2).trans q0⟩
      clear hSd5;refine wp_region_held_drew (S:=S5) y8 hS50 (fun hHeld=>?_);have HBD5:=ħ hbd5;clear hS50 hbd5;generalize wk.drew=Z5 at *;refine tk 0 68 ?_;refine tk 1 69 ?_;refine tk 2 70 ?_;refine tk 3 71 ?_;refine tq 4 72 hS51 ?_;refine tk 5 73 ?_;refine tk 6 74 ?_;refine tk 7 75 ?_;refine tq 8 76 hS53 ?_;refine tk 9 77 ?_;refine tq 10 78 hS52 ?_;refine tk 11 79 ?_;refine wz ?_;clear hS51 hS52 hS53 hHeld;have HGS:=ħ (HGS.out.up HBD5.out);have HBK:=ħ (HBK.out.up HBD5.out);have HTK:=ħ (HTK.out.up HBD5.out);have HOP:=ħ (bD.up HOP.out HBD5.out);have HHE:=ħ (HHE.out.up HBD5.out);have HRR:=ħ (HRR.out.up HBD5.out);have hbut:=aA hbut HBD5.out;have htb2:=Nat.lt_of_lt_of_le htb2 HBD5.out.size;have HROW:=ħ (bS HROW.out HBD5.out);go_upto_region 16 with fail
      clear g6 q0 m3 hgk hml hde hde3 HBD5;refine mn (ps.getD k default) fun v7 hv7=>?_;have hpo:aE Z5 w.heap.size v7 (wth D.wa k).ak:=by have h8:aE Z5 w.heap.size (ps.getD k default) ((fI D.wa fr di k).getD k default).ak:=HTK.out.2.2 k HKS.out;rw [HWK.out,hv7] at h8;exact h8
      have hak9:=HAK.out _ (cB (l:=D.wa) hkl);have HAKK:Hid ((wth D.wa k).ak.length≤50000):=ħ hak9;obtain ⟨A7,c7,rfl,-⟩:=hpo.ints (by have:=HAKK.out;omega);refine mn ((wth D.wa k).ak.length) fun n7 hn7=>?_;rw [hn7] at hpo hv7;refine mn ((iQ (wth D.wa k).ak fr).length) fun n8 hn8=>?_;have hn8b:n8≤50001:=by rw [←hn8];have:=AF (wth D.wa k).ak fr;have:=HAKK.out;omega
      have HPO:=ħ hpo;have HPS:=ħ hv7;have HN8:=ħ hn8;have HRJ:Hid (mH (wth D.wa k).ak):=ħ (FV (HRI.out _ (cB (l:=D.wa) hkl)));have hgtb:gs≠tb:=fun e=>by subst e;exact mY HROW.out HGS.out y5 rfl
      have hgmtb:gm≠tb:=fun e=>by subst e;exact mY HROW.out HBK.out y5 rfl
      clear hpo hv7 hn7 hn8 hak9 hd;obtain ⟨S,hSd⟩:∃S:World→Prop,S=fun Q=>Q.cell? ⟨gs,6,none⟩=some (.slice (some ⟨tb,0,none⟩) tn2 tc2)∧Q.cell? ⟨gm,1,none⟩=some (.int .i64 fr):=⟨_,rfl⟩;have hS1:∀Q,S Q→Q.cell? ⟨gs,6,none⟩=some (.slice (some ⟨tb,0,none⟩) tn2 tc2):=fun Q h=>by rw [hSd] at h;exact h.1
      have hS2:∀Q,S Q→Q.cell? ⟨gm,1,none⟩=some (.int .i64 fr):=fun Q h=>by rw [hSd] at h;exact h.2
      have hS:∀Q,Below Z5 Z5 Q→S Q:=fun Q hQ=>by rw [hSd];exact ⟨(HGS.out.up hQ).box.2 6 _ rfl,(HBK.out.up hQ).box.2 1 _ rfl⟩
      have hS9:∀Q u,S Q→S (Q.setCell ⟨tb,k*2+1,none⟩ u):=fun Q u h=>by rw [hSd] at h ⊢;exact ⟨(World.cell?_setCell_other _ _ _ _ y15).trans h.1,(World.cell?_setCell_other _ _ _ _ y15).trans h.2⟩
      clear hSd;refine hdq hS fun hHeld=>?_;have hbd:=bdr Z5;have hZ:=hHeld;generalize Z5.drew=Z at *;refine tk 0 80 ?_;refine tk 1 81 ?_;refine tk 2 82 ?_;refine tk 3 83 ?_;refine tq 4 84 hS1 ?_;refine tk 5 85 ?_;refine tk 6 86 ?_;refine tk 7 87 ?_;refine tk 8 88 ?_;refine tk 9 89 ?_;refine tq 10 90 hS1 ?_;refine tk 11 91 ?_;refine tk 12 92 ?_;refine tk 13 93 ?_;refine tk 15 95 ?_;refine tq 16 96 hS2 ?_;refine ry 14 fun K hK=>?_;have HRZ:=HROW.out;obtain ⟨gz,fz⟩:=lQ (bS HROW.out hbd);have q1:Z.cell? ⟨tb,k*2+1,none⟩=some (.slice A7 n7 c7):=gz _ _ (by rw [show k*2+1=k*aN.k+1 from rfl,cO aN HTK.out.2.1 (j:=k) (r:=1) HKS.out y5,HWK.out,HPS.out];rfl);have ql:=(bV (bS HROW.out hbd) tb rfl).2;go_simp;clear q1 ql fz gz HRZ;refine hkq hK (hS _ hbd) fun hHeld=>?_;clear hK K;refine ry 17 fun K hK=>?_;go_simp;(go_at_call 91;refine (Fd (.slice A7 n7 c7) (wth D.wa k).ak fr w.heap.size _ (HPO.out.up hbd) HRJ.out (by have:=HAKK.out;omega) (Nat.le_trans hbut.size hbd.size)).mono ?_;rintro e w6 ⟨v6,rfl,ho6,hb6,hob6⟩;obtain ⟨A8,c8,rfl,-⟩:=ho6.ints (by rw [HN8.out];omega);rw [HN8.out] at ho6 hob6 ⊢)
      have hb67:=aA hbd hb6;refine hkq hK (hS _ hb67) fun hHeld=>?_;clear hK K;refine tk 18 98 ?_;refine tk 19 99 ?_;refine ry 20 fun K hK=>?_;have hr6:=bS HROW.out hb67;obtain ⟨gz,fz⟩:=lQ hr6;have q1:w6.cell? ⟨tb,k*2+1,none⟩=some (.slice A7 n7 c7):=gz _ _ (by rw [show k*2+1=k*aN.k+1 from rfl,cO aN HTK.out.2.1 (j:=k) (r:=1) HKS.out y5,HWK.out,HPS.out];rfl);have ql:=(bV hr6 tb rfl).2;clear gz;go_simp;clear q1 ql fz;refine hkq hK (hS9 _ _ (hS _ hb67)) fun hHeld=>?_;clear hK K;refine wz ?_;have hP7:=Es (i:=k) (p:=.slice A8 n8 c8) (ak:=iQ (wth D.wa k).ak fr) (h:=aP.up (by have h8:=HTK.out;rw [HWA.out] at h8;rw [←HTN.out] at h8;exact h8) hb67) hkl ho6;have hob:(Value.slice (some ⟨tb,0,none⟩) tn2 tc2).ownBlock=some tb:=rfl;have hG7:=(HGS.out.up hb67).far (p:=⟨tb,k*2+1,none⟩) (by show gs≠tb;exact hgtb) (.slice A8 n8 c8);have hB7:=(HBK.out.up hb67).far (p:=⟨tb,k*2+1,none⟩) (by show gm≠tb;exact hgmtb) (.slice A8 n8 c8);have hO7:bD _ w.heap.size (.slice oA2 on2 oc2) D.op:=gT (o:=k*2+1) (x:=.slice A8 n8 c8) (bS HOP.out hb67) hr6 y5 hob;have hH7:=bL.setW (o:=k*2+1) (x:=.slice A8 n8 c8) (HHE.out.up hb67) hr6 hob;have hR7:aE _ w.heap.size (.slice rA2 rn2 rc2) D.re:=gT (o:=k*2+1) (x:=.slice A8 n8 c8) (bS (show World.ownsRow _ _ 3 1 _ _ _ from HRR.out) hb67) hr6 y5 hob;have hb7:Below w w (w6.setCell ⟨tb,k*2+1,none⟩ (.slice A8 n8 c8)):=(hbut.trans (hb67.mono hbut.size)).setCell (p:=⟨tb,k*2+1,none⟩) htb1 _
      have hA7:iH (ps.set k (.slice A8 n8 c8)) (fI D.wa fr di (k+1)) (Value.slice rA2 rn2 rc2).ownBlock:=by
       intro j hj q hq;by_cases hjk:j=k
       · subst hjk;have e9:(ps.set j (.slice A8 n8 c8)).getD j default=.slice A8 n8 c8:=by simp [show j<ps.length by rw [HTK.out.2.1];exact HKS.out]
         rw [e9];rcases hob6 with h8|⟨q2,h8,h9⟩
         · rw [h8,← HPS.out];exact HAP.out j HKS.out q hq
         · rw [h8];intro e;injection e with e;have h10:=(bV (show World.ownsRow _ _ 3 1 _ _ _ from HRR.out) q hq).2;have:=hbd.size;omega
       · have e9:(ps.set k (.slice A8 n8 c8)).getD j default=ps.getD j default:=by simp only [List.getD_eq_getElem?_getD];rw [List.getElem?_set,if_neg (fun e=>hjk e.symm)]
         rw [e9];exact HAP.out j (by rw [uE] at hj ⊢;exact hj) q hq
      have HG7:=ħ hG7;have HB7:=ħ hB7;have HO7:=ħ hO7;have HH7:=ħ hH7;have HR7:=ħ hR7;have HA7:=ħ hA7;have HP7:Hid (aP aN (w6.setCell ⟨tb,k*2+1,none⟩ (.slice A8 n8 c8)) w.heap.size (.slice (some ⟨tb,0,none⟩) tn2 tc2) (ps.set k (.slice A8 n8 c8)) (fI D.wa fr di (k+1))):=ħ (by rw [HSL.out];rw [HTN.out] at hP7;exact hP7);clear hS hS1 hS2 hS9 hHeld hZ hG7 hB7 hO7 hH7 hR7 hA7 hP7 hr6 hob hb6 hb67 hob6 ho6;go_wp2_with fail
      (refine rnd ?_;exact ⟨k+1,ps.set k (.slice A8 n8 c8),by omega,by go_num,HG7,HB7,HP7,HA7,HO7,HH7,HR7,hb7⟩)
    · skip
      have hde:decide ((wth D.wa k).di=di)=false:=by simp [hd]
      have hs9:fI D.wa fr di (k+1)=fI D.wa fr di k:=Ep hd;have HSL:=ħ hs9;have HDD:=ħ hd;clear hs9 fg hd;have hde2:((wth D.wa k).di == di)=false:=by simp [HDD.out]
      go_upto_region 15 with fail
      obtain ⟨S5,hSd5⟩:∃S:World→Prop,S=fun Q=>Q.cell? ⟨gs,6,none⟩=some (.slice (some ⟨tb,0,none⟩) tn2 tc2)∧Q.cell? ⟨gm,3,none⟩=some (.int .i64 di)∧Q.cell? ⟨tb,k*2,none⟩=some (.int .i64 (wth D.wa k).di):=⟨_,rfl⟩;have hS51:∀Q,S5 Q→Q.cell? ⟨gs,6,none⟩=some (.slice (some ⟨tb,0,none⟩) tn2 tc2):=fun Q h=>by rw [hSd5] at h;exact h.1
      have hS52:∀Q,S5 Q→Q.cell? ⟨gm,3,none⟩=some (.int .i64 di):=fun Q h=>by rw [hSd5] at h;exact h.2.1
      have hS53:∀Q,S5 Q→Q.cell? ⟨tb,k*2,none⟩=some (.int .i64 (wth D.wa k).di):=fun Q h=>by rw [hSd5] at h;exact h.2.2
      have hbd5:=bdr wk;have hS50:S5 wk.drew:=by rw [hSd5];exact ⟨(hbd5.cell (p:=⟨gs,6,none⟩) hgk).trans g6,(hbd5.cell (p:=⟨gm,3,none⟩) hml).trans m3,(hbd5.cell (p:=⟨tb,k*2,none⟩) htb2).trans q0⟩
      clear hSd5;refine wp_region_held_drew (S:=S5) y8 hS50 (fun hHeld=>?_);have HBD5:=ħ hbd5;clear hS50 hbd5;generalize wk.drew=Z5 at *;refine tk 0 68 ?_;refine tk 1 69 ?_;refine tk 2 70 ?_;refine tk 3 71 ?_;refine tq 4 72 hS51 ?_;refine tk 5 73 ?_;refine tk 6 74 ?_;refine tk 7 75 ?_;refine tq 8 76 hS53 ?_;refine tk 9 77 ?_;refine tq 10 78 hS52 ?_;refine tk 11 79 ?_;refine wz ?_;clear hS51 hS52 hS53 hHeld;have HGS:=ħ (HGS.out.up HBD5.out);have HBK:=ħ (HBK.out.up HBD5.out);have HTK:=ħ (HTK.out.up HBD5.out);have HOP:=ħ (bD.up HOP.out HBD5.out);have HHE:=ħ (HHE.out.up HBD5.out);have HRR:=ħ (HRR.out.up HBD5.out);have hbut:=aA hbut HBD5.out;have htb2:=Nat.lt_of_lt_of_le htb2 HBD5.out.size;have HROW:=ħ (bS HROW.out HBD5.out);clear g6 q0 m3 hgk hml;go_wp2_with fail
      (refine rnd ?_;exact ⟨k+1,ps,by omega,by go_num,HGS,HBK,by (rw [HSL.out];exact HTK),by (rw [HSL.out];exact HAP),HOP,HHE,HRR,hbut⟩)
  · skip
    obtain rfl:tn2=k:=by omega
    have hse:fI D.wa fr di tn2=iR D.wa fr di:=Fj (by rw [HTN.out]);rw [hse] at HTK HAP;have hrl:=HRE.out;have HRI2:=ħ (BP (d:=di) HRI.out HFR.out.1 HFR.out.2);have HBG2:=ħ (CO (who:=fr) (d:=di) HBW.out (fun x hx=>Nat.le_trans (HAK.out x hx) y5));have HRL:Hid (D.re.length+(iR D.wa fr di).length≤800000000):=ħ (by rw [sD];exact hrl);clear hrl hse;go_wp2_with (go_at_call 87;refine (Bf gs w.heap.size oA2 tA2 eA2 rA2 none on2 oc2 tn2 tc2 en2 ec2 rn2 rc2 0 0 ({D with wa:=iR D.wa fr di}:aD) ps _ HGS.out hbut.size HTK.out HRR.out HAP.out HBG2.out HRL.out HRI2.out HNS.out).mono ?_;rintro e w9 ⟨A1,m1,c1,A2,m2,c2,rfl,hG9,hK9,hW9,hR9⟩)
    have hH9:=aP.kbW hK9 HHE.out HGS.out (show World.ownsRow _ _ 3 1 _ _ _ from HRR.out) rfl;have hX9:bD w9 w.heap.size (.slice oA2 on2 oc2) D.op:=hK9.own (show World.ownsRow _ _ 41 4 _ _ _ from HOP.out) (mY (show World.ownsRow _ _ 41 4 _ _ _ from HOP.out) HGS.out y5) (fun q e=>Ax (show World.ownsRow _ _ 41 4 _ _ _ from HOP.out) (show World.ownsRow _ _ 3 1 _ _ _ from HRR.out) y5 q e);have hb9:Below w w w9:=hbut.trans (FL hK9 hbut.size y2 (fun q e=>(bV (show World.ownsRow _ _ 3 1 _ _ _ from HRR.out) q e).1));have hgk2:=hG9.lt;exact bodyPost_ret (v:=.tuple #[.pointer (some ⟨gs,0,none⟩),z0]) y24 rfl ⟨gs,⟨⟨oA2,on2,oc2⟩,⟨A1,m1,c1⟩,⟨eA2,en2,ec2⟩,⟨A2,m2,c2⟩⟩,none,0,0,[],rfl,hG9,⟨hX9,hW9,hH9,hR9⟩,aP.nil _ _,by omega,hb9⟩
end Go.Proofs.YtgfakefcmbpboaaGreat
