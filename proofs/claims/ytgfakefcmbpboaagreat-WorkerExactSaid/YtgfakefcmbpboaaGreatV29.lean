/- Part 29 of what WorkerExact leans on. No conditions. -/
import Derived.Test.YtgfakefcmbpboaaGreatV28
namespace Go.Proofs.YtgfakefcmbpboaaGreat
set_option linter.all false
set_option maxRecDepth 100000
set_option maxHeartbeats 64000000
open _root_.Go.Proofs.Tryz Go.RowKit
open Tok
def CS:Code→Code
 | .cond _ a _=>a
 | c=>c
noncomputable def gE:Code:=bF 12 (Tryz.f46.body.getD .skip)
theorem AT {l:List aV} {key:Int} {lo:Nat} (hlo:eK l key=lo) (h:eW l key=true):lo<l.length∧(wth l lo).di=key:=by
 unfold eW at h;rw [hlo] at h;exact bJ.1 h
theorem E4 {l:List aV} (hs:gK l) {key:Int}:eW l key=true↔∃j,j<l.length∧(wth l j).di=key:=by
 constructor
 · intro h;exact ⟨_,AT rfl h⟩
 · rintro ⟨j,hj,e⟩;have hpos:eK l key=j:=sG _ l j y2 (fun t ht=>by have:=hs t j ht hj;rw [e] at this;exact this) (fun _=>by show ltI (wth l j).di key=false;rw [e];simp [ltI]);unfold eW;rw [hpos];exact bJ.2 ⟨hj,e⟩
theorem iF {w:World} {B:Nat} {A:Option Addr} {n c:Nat} {l:List TxD} (h:bD w B (.slice A n c) l) (hn:n≤800000000):bZ w A n l:=by
 have e1:l.length=n:=by
  rcases h.2 with ⟨e,e2⟩|⟨g,cap,cur,e,_⟩
  · injection e with _ e3 _;omega
  · injection e with _ e3 _;exact e3.symm
 obtain ⟨A2,c2,e2,ht,_⟩:=h.txs y2;injection e2 with e3 e4 e5;rw [e3,e4];exact ht
theorem yB {qs ps:List Value} {p:Value} {l:List aV} {x:aV} {lo:Nat} {rq:Option Nat} (hq:qs.length=lo) (hlo:lo≤l.length) (h:iH ps l rq) (h1:∀j,j<lo→∀q,rq=some q→(qs.getD j default).ownBlock≠some q) (h2:∀q,rq=some q→p.ownBlock≠some q):iH (qs ++ p :: ps.drop lo) (bM l lo x) rq:=by
 intro j hj q e;rw [cP hlo] at hj;rcases Nat.lt_trichotomy j lo with h9|h9|h9
 · have a1:(qs ++ p :: ps.drop lo).getD j default=qs.getD j default:=by simp [List.getElem?_append,hq,h9]
   rw [a1];exact h1 j h9 q e
 · subst h9
   have a1:(qs ++ p :: ps.drop j).getD j default=p:=by
    simp only [List.getD_eq_getElem?_getD];rw [List.getElem?_append_right y2,hq,Nat.sub_self];rfl
   rw [a1];exact h2 q e
 · obtain ⟨i,rfl⟩:∃i,j=lo+1+i:=⟨j-lo-1,by omega⟩
   have a1:(qs ++ p :: ps.drop lo).getD (lo+1+i) default=ps.getD (lo+i) default:=by
    simp only [List.getD_eq_getElem?_getD];rw [List.getElem?_append_right y2,hq,show lo+1+i-lo=i+1 by omega,List.getElem?_cons_succ,List.getElem?_drop]
   rw [a1];exact h (lo+i) y2 q e
theorem yF {K0:Act→World→Prop} (P:aF) (D:aD) (d n2:Int) (b:bY) (op2:List TxD) (he2:List bI) (wa2:List aV) (ps:List Value) (w W:World) (gw gs gb lw:Nat) (oA tA eA rA bA:Option Addr) (on oc tn tc en ec rn rc bn bc:Nat) (NI:Nat) (v7:Value) (qs:List Value) (w7:World) {u0 u3 u4 u5 u8 lV lW kK kL kM kN lX kO kP kQ kR kS kT kU kV kX kY lB lC lD lE lF lH lI lJ lK mS oM oN oO oP oQ oR oS oT oU oV oW oX oY oZ pB pC pD pE pF pG pH pI pJ pK pL pM mT pN pO pP pQ pR pS qM qN qO qP qQ qR qT qU qV qW qX qY qZ rB rC rD rE rF rG rH rI rJ rK rL rM rN rO rZ sB gG gH gI gJ mR nO nP nQ nR qG qH qI qJ qK qL sR sS sU sV sW sX sY sZ tB tC tE tF tG tH tI tJ tK tM tN tO tP vM vN vO vP vQ vR vS vT vU vV vW vX vY vZ wA wB wC wD wE wF:Value}
 (hK0:∀a' w',Code.wp prog (cL gE) (bodyPost prog Tryz.f46 (fun e w'=>∃gs P' uA un uc us,e=.returned (.tuple #[.pointer (some ⟨gs,0,none⟩),z0])∧Blk w' gs 70 (cS ({D with op:=op2,next:=n2,age:=0,he:=he2,wa:=bH D.nodes wa2,re:=bE D.nodes D.re wa2}:aD) P' uA un uc)∧iL w' w.heap.size P' ({D with op:=op2,next:=n2,age:=0,he:=he2,wa:=bH D.nodes wa2,re:=bE D.nodes D.re wa2}:aD)∧aP cT w' w.heap.size (.slice uA un uc) us (dF D.id d b [] D.nodes.toNat)∧w.heap.size≤gs∧Below w w w')) a' w'→K0 a' w')
 (hbW:Below w w W) (hgw0:gw<w.heap.size+1) (hgs0:w.heap.size≤gs) (hgwne:gw≠gs) (hgbne:gb≠gs) (hgww:w.heap.size≤gw)
 (hw:Blk W gw 27 (cW D P)) (hbx:Blk W gb 43 [b.au,b.n,.slice bA bn bc]) (hg:Blk W gs 70 [D.id,D.nodes,n2,.slice oA on oc,z0,D.clock,.slice tA tn tc,.slice eA en ec,.slice rA rn rc,n0])
 (hTx:bD W w.heap.size (.slice bA bn bc) b.tx) (hbn:bn≤800000000)
 (hT:aP aN W w.heap.size (.slice tA tn tc) ps D.wa) (hR:aE W w.heap.size (.slice rA rn rc) D.re) (hap:iH ps D.wa (Value.slice rA rn rc).ownBlock) (hH:bL W w.heap.size (.slice eA en ec) he2) (hO:kG W oA on op2) (hoc:on≤oc) (hom:oc≤9223372036854775807)
 (hbw:nU D.wa) (hwl:D.wa.length≤700000000) (hre:D.re.length+D.wa.length≤700000000) (hris:∀x∈wa2,dO x.ak D.nodes) (hns:isS D.nodes=true)
 (hw2:bM D.wa lw ⟨d,[D.id]⟩=wa2) (hlwt:lw≤tn) (hb7:Below W W w7) (hsz7:W.heap.size≤w7.heap.size) (h7:w7.ownsRow W.heap.size 56 2 v7 (lw+1) (aO aN (D.wa.take lw) qs ++ [.int .i64 d,.slice (some ⟨NI,0,none⟩) 1 1])) (hql:qs.length=lw) (hq:∀j,j<lw→aE w7 W.heap.size (qs.getD j default) (D.wa.getD j default).ak) (hi:aE w7 W.heap.size (.slice (some ⟨NI,0,none⟩) 1 1) [D.id]) :
 Code.wp prog (cL (CS (cL (dJ gE)))) (Exit.then K0 (bodyPost prog Tryz.f46 (fun e w'=>∃gs P' uA un uc us,e=.returned (.tuple #[.pointer (some ⟨gs,0,none⟩),z0])∧Blk w' gs 70 (cS ({D with op:=op2,next:=n2,age:=0,he:=he2,wa:=bH D.nodes wa2,re:=bE D.nodes D.re wa2}:aD) P' uA un uc)∧iL w' w.heap.size P' ({D with op:=op2,next:=n2,age:=0,he:=he2,wa:=bH D.nodes wa2,re:=bE D.nodes D.re wa2}:aD)∧aP cT w' w.heap.size (.slice uA un uc) us (dF D.id d b [] D.nodes.toNat)∧w.heap.size≤gs∧Below w w w'))) {tmps:=#[u0,.int .i64 d,.pointer (some ⟨gw,0,none⟩),u3,u4,u5,.pointer (some ⟨gs,0,none⟩),.pointer (some ⟨gb,0,none⟩),u8,.int .i64 (lw:Int),v7,lV,lW,kK,kL,kM,kN,lX,kO,kP,kQ,kR,kS,kT,kU,kV,kX,kY,lB,lC,lD,lE,lF,lH,lI,lJ,lK,mS,oM,oN,oO,oP,oQ,oR,oS,oT,oU,oV,oW,oX,oY,oZ,pB,pC,pD,pE,pF,pG,pH,pI,pJ,pK,pL,pM,mT,pN,pO,pP,pQ,pR,pS,qM,qN,qO,qP,qQ,qR,qT,qU,qV,qW,qX,qY,qZ,rB,rC,rD,rE,rF,rG,rH,rI,rJ,rK,rL,rM,rN,rO,rZ,sB,gG,gH,gI,gJ,mR,nO,nP,nQ,nR,qG,qH,qI,qJ,qK,qL,sR,sS,sU,sV,sW,sX,sY,sZ,tB,tC,tE,tF,tG,tH,tI,tJ,tK,tM,tN,tO,tP,vM,vN,vO,vP,vQ,vR,vS,vT,vU,vV,vW,vX,vY,vZ,wA,wB,wC,wD,wE,wF],defers:=[]} w7:=by
 have HTN:Hid (D.wa.length=tn):=ħ y28
 have htcn:tn≤tc:=by
  rcases eD hT.1 with ⟨e,_⟩|⟨q1,c1,e,_,h⟩
  · injection e with e1 e2 e3;omega
  · injection e with e1 e2 e3;have:=HTN.out;omega
 have htn:tn≤700000000:=by rw [←HTN.out];exact hwl
 have hbw2:nU wa2:=by
  rw [←hw2];refine ⟨by rw [cP y46];omega,fun x hx=>?_⟩;rcases mD hx with rfl|hx
  · simp
  · exact hbw.2 x hx
 have hre2:D.re.length+wa2.length≤800000000:=by rw [←hw2,cP y46];omega
 have hRV:iI W tA tn 2 (aO aN D.wa ps):=by
  obtain ⟨A2,c2,e2,hrv,_⟩:=dC hT.1 y2;injection e2 with e3 e4 e5;rw [HTN.out] at hrv;rw [e3];exact hrv
 have HON:=ħ hT.one;have HRV7:=ħ (hRV.up hb7);have HW:=ħ hw;have HBX:=ħ hbx;have HG7:=ħ (hg.up hb7);have HX:=ħ hTx;have HT:=ħ hT;have HR:=ħ hR;have HAP:=ħ hap;have HH:=ħ hH;have HO:=ħ hO;have HRIS:=ħ hris;have HNS:=ħ hns;have HRL:Hid (∀q,(Value.slice rA rn rc).ownBlock=some q→q<W.heap.size):=ħ (fun q hq=>(bV (show World.ownsRow _ _ 3 1 _ _ _ from hR) q hq).2);have H7:=ħ h7;have HQ:=ħ hq;have HI:=ħ hi;have HQL:=ħ hql;have HB7:=ħ hb7;have HW2:=ħ hw2;have HK0:=ħ hK0;have hgsW:=hg.lt;have hwW:=hbW.size;have lG7:=HG7.out.lt;have fG7:=HG7.out.frozen;obtain ⟨a_0,a_1,a_2,a_3,a_4,a_5,a_6,a_7,a_8,a_9⟩:=gO HG7.out.box;clear hRV hw hbx hg hTx hT hR hap hH hO hris hns h7 hq hi hql hb7 hw2 hK0 hbw hre hwl;dsimp only [gE,bF,cL,dJ,CS,Tryz.f46,Option.getD];rcases eD HT.out.1 with ⟨e,h0⟩|⟨gt,ce,e,hgt,hce0⟩
 · injection e with e1 e2 e3;subst e1;subst e2;subst e3;have hlw0:lw=0:=by omega
   subst hlw0;rcases eD H7.out with ⟨_,h0⟩|⟨g7,c7,e7,hg7B,hc7⟩
   · omega
   · subst e7;have hc8:¬c7<0+1:=by omega
     go_wp2_with fail
     have HG9:=HG7;have hb79:Below W W w7:=HB7.out
     have hT9:aP aN w7 w.heap.size (.slice (some ⟨g7,0,none⟩) (0+1) c7) (qs ++ (.slice (some ⟨NI,0,none⟩) 1 1) :: ps.drop 0) wa2:=by
      rw [←HW2.out];exact oD aN HQL.out y46 HT.out.2.1 (by (rw [show D.wa.length-0=0 by have:=HTN.out;omega,List.drop_of_length_le (by rw [HRV7.out.1];first|exact Nat.le_refl _|simp),List.append_nil]);exact aZ H7.out hwW) (fun j hj=>aZ (show World.ownsRow _ _ 3 1 _ _ _ from HQ.out j hj) hwW) (aZ (show World.ownsRow _ _ 3 1 _ _ _ from HI.out) hwW) (fun j _ hj=>bS (show World.ownsRow _ w.heap.size 3 1 _ _ _ from HT.out.2.2 j hj) hb79)
     have hap9:iH (qs ++ (.slice (some ⟨NI,0,none⟩) 1 1) :: ps.drop 0) wa2 (Value.slice rA rn rc).ownBlock:=by
      rw [←HW2.out];exact yB HQL.out y46 HAP.out (fun j hj q e e2=>by have h1:=(bV (show World.ownsRow _ _ 3 1 _ _ _ from HQ.out j hj) q e2).1;have h2:=HRL.out q e;omega) (fun q e e2=>by have h1:=(bV (show World.ownsRow _ _ 3 1 _ _ _ from HI.out) q e2).1;have h2:=HRL.out q e;omega)
     have hT9l:=hT9.1;have HT9:=ħ hT9;have HAP9:=ħ hap9;have HB9:=ħ hb79;clear hT9l hT9 hap9 hb79;show K0 _ _;apply HK0.out;dsimp only [gE,bF,cL,dJ,Tryz.f46,Option.getD];go_upto_region 19 with fail
     rename_i K0' hK0' K1' hK1';refine nm (w7.setCell ⟨gs,6,none⟩ (.slice (some ⟨g7,0,none⟩) (0+1) c7)) fun Wf hWf=>?_;have hGf:=HG9.out.set_ 6 (.slice (some ⟨g7,0,none⟩) (0+1) c7);have htg:=aC.setg (o:=6) (u:=.slice (some ⟨g7,0,none⟩) (0+1) c7) HG9.out;have hTf:aP aN _ w.heap.size (.slice (some ⟨g7,0,none⟩) (0+1) c7) _ wa2:=⟨aR HT9.out.1 htg y5,HT9.out.2.1,fun j hj=>aR (show World.ownsRow _ _ 3 1 _ _ _ from HT9.out.2.2 j hj) htg y5⟩;have hRf:aE _ w.heap.size (.slice rA rn rc) D.re:=aR (bS (show World.ownsRow _ _ 3 1 _ _ _ from HR.out) HB9.out) htg y5;have hHf:=(HH.out.up HB9.out).tkR htg;have hOf:=(HO.out.up HB9.out).tk htg y67 y5;have hWbf:=(HW.out.up HB9.out).far (p:=⟨gs,6,none⟩) hgwne (.slice (some ⟨g7,0,none⟩) (0+1) c7);have hBbf:=(HBX.out.up HB9.out).far (p:=⟨gs,6,none⟩) hgbne (.slice (some ⟨g7,0,none⟩) (0+1) c7);have hXf:bD _ w.heap.size (.slice bA bn bc) b.tx:=aR (bS (show World.ownsRow _ _ 41 4 _ _ _ from HX.out) HB9.out) htg y5;have hbf:=(hbW.trans (HB9.out.mono hwW)).setCell (p:=⟨gs,6,none⟩) hgs0 (.slice (some ⟨g7,0,none⟩) (0+1) c7);rw [←hWf] at hGf hTf hRf hHf hOf hWbf hBbf hXf hbf ⊢;have hgwf:=hWbf.lt;exact nB P D d n2 b op2 he2 wa2 _ w Wf gw gs gb oA (some ⟨g7,0,none⟩) eA rA bA on oc (0+1) c7 en ec rn rc bn bc hK0' hK1' hbf hgwf hgs0 hgwne hgbne hWbf hBbf hGf (iF hXf hbn) (fun X hX=>iF (aR (show World.ownsRow _ _ 41 4 _ _ _ from hXf) (aC.of_but hGf hX) y5) hbn) hbn hTf hRf HAP9.out hHf hOf hoc hom hbw2 hre2 HRIS.out HNS.out
 · injection e with e1 e2 e3;subst e1;clear e2 e3;by_cases hce:tc=lw
   · have htn2:tn=tc:=by omega
     subst htn2;subst hce;rcases eD H7.out with ⟨_,h0⟩|⟨g7,c7,e7,hg7B,hc7⟩
     · omega
     · subst e7;have hc8:¬c7<tn+1:=by omega
       go_wp2_with fail
       have HG9:=HG7;have hb79:Below W W w7:=HB7.out
       have hT9:aP aN w7 w.heap.size (.slice (some ⟨g7,0,none⟩) (tn+1) c7) (qs ++ (.slice (some ⟨NI,0,none⟩) 1 1) :: ps.drop tn) wa2:=by
        rw [←HW2.out];exact oD aN HQL.out y46 HT.out.2.1 (by (rw [show D.wa.length-tn=0 by have:=HTN.out;omega,List.drop_of_length_le (by rw [HRV7.out.1];first|exact Nat.le_refl _|simp),List.append_nil]);exact aZ H7.out hwW) (fun j hj=>aZ (show World.ownsRow _ _ 3 1 _ _ _ from HQ.out j hj) hwW) (aZ (show World.ownsRow _ _ 3 1 _ _ _ from HI.out) hwW) (fun j _ hj=>bS (show World.ownsRow _ w.heap.size 3 1 _ _ _ from HT.out.2.2 j hj) hb79)
       have hap9:iH (qs ++ (.slice (some ⟨NI,0,none⟩) 1 1) :: ps.drop tn) wa2 (Value.slice rA rn rc).ownBlock:=by
        rw [←HW2.out];exact yB HQL.out y46 HAP.out (fun j hj q e e2=>by have h1:=(bV (show World.ownsRow _ _ 3 1 _ _ _ from HQ.out j hj) q e2).1;have h2:=HRL.out q e;omega) (fun q e e2=>by have h1:=(bV (show World.ownsRow _ _ 3 1 _ _ _ from HI.out) q e2).1;have h2:=HRL.out q e;omega)
       have hT9l:=hT9.1;have HT9:=ħ hT9;have HAP9:=ħ hap9;have HB9:=ħ hb79;clear hT9l hT9 hap9 hb79;show K0 _ _;apply HK0.out;dsimp only [gE,bF,cL,dJ,Tryz.f46,Option.getD];go_upto_region 19 with fail
       rename_i K0' hK0' K1' hK1';refine nm (w7.setCell ⟨gs,6,none⟩ (.slice (some ⟨g7,0,none⟩) (tn+1) c7)) fun Wf hWf=>?_;have hGf:=HG9.out.set_ 6 (.slice (some ⟨g7,0,none⟩) (tn+1) c7);have htg:=aC.setg (o:=6) (u:=.slice (some ⟨g7,0,none⟩) (tn+1) c7) HG9.out;have hTf:aP aN _ w.heap.size (.slice (some ⟨g7,0,none⟩) (tn+1) c7) _ wa2:=⟨aR HT9.out.1 htg y5,HT9.out.2.1,fun j hj=>aR (show World.ownsRow _ _ 3 1 _ _ _ from HT9.out.2.2 j hj) htg y5⟩;have hRf:aE _ w.heap.size (.slice rA rn rc) D.re:=aR (bS (show World.ownsRow _ _ 3 1 _ _ _ from HR.out) HB9.out) htg y5;have hHf:=(HH.out.up HB9.out).tkR htg;have hOf:=(HO.out.up HB9.out).tk htg y67 y5;have hWbf:=(HW.out.up HB9.out).far (p:=⟨gs,6,none⟩) hgwne (.slice (some ⟨g7,0,none⟩) (tn+1) c7);have hBbf:=(HBX.out.up HB9.out).far (p:=⟨gs,6,none⟩) hgbne (.slice (some ⟨g7,0,none⟩) (tn+1) c7);have hXf:bD _ w.heap.size (.slice bA bn bc) b.tx:=aR (bS (show World.ownsRow _ _ 41 4 _ _ _ from HX.out) HB9.out) htg y5;have hbf:=(hbW.trans (HB9.out.mono hwW)).setCell (p:=⟨gs,6,none⟩) hgs0 (.slice (some ⟨g7,0,none⟩) (tn+1) c7);rw [←hWf] at hGf hTf hRf hHf hOf hWbf hBbf hXf hbf ⊢;have hgwf:=hWbf.lt;exact nB P D d n2 b op2 he2 wa2 _ w Wf gw gs gb oA (some ⟨g7,0,none⟩) eA rA bA on oc (tn+1) c7 en ec rn rc bn bc hK0' hK1' hbf hgwf hgs0 hgwne hgbne hWbf hBbf hGf (iF hXf hbn) (fun X hX=>iF (aR (show World.ownsRow _ _ 41 4 _ _ _ from hXf) (aC.of_but hGf hX) y5) hbn) hbn hTf hRf HAP9.out hHf hOf hoc hom hbw2 hre2 HRIS.out HNS.out
   · have hce2:¬lw=tc:=fun e=>hce e.symm;go_wp2_with (at_builtin;refine wL rfl (.tmp 124) (.tmp 131) rfl rfl W.heap.size v7 _ _ rfl H7.out _ (tn-lw) _ ((aO aN D.wa ps).drop (lw*2)) rfl (HRV7.out.dropK hlwt) (fun u hu=>HON.out u (List.mem_of_mem_drop hu)) y2 hsz7 ?_;intro v9 w9 hown9 hg9 hb9;(obtain ⟨A9,n9,c9,e9⟩:=B1 hown9);subst e9;have hG9:=HG7.out.below hb9 hgsW;have fG:=hG9.frozen;have lG:=hG9.lt;clear a_0 a_1 a_2 a_3 a_4 a_5 a_6 a_7 a_8 a_9;obtain ⟨a_0,a_1,a_2,a_3,a_4,a_5,a_6,a_7,a_8,a_9⟩:=gO hG9.box;have HG9:=ħ hG9;clear hG9)
     have hrow9:=hown9;have hb79:Below W W w9:=HB7.out.trans hb9;have hq9:∀j,j<lw→aE w9 W.heap.size (qs.getD j default) (D.wa.getD j default).ak:=fun j hj=>bT (show World.ownsRow _ _ 3 1 _ _ _ from HQ.out j hj) H7.out y5 hg9;have hi9:aE w9 W.heap.size (.slice (some ⟨NI,0,none⟩) 1 1) [D.id]:=bT (show World.ownsRow _ _ 3 1 _ _ _ from HI.out) H7.out y5 hg9
     have hT9:aP aN w9 w.heap.size (.slice A9 n9 c9) (qs ++ (.slice (some ⟨NI,0,none⟩) 1 1) :: ps.drop lw) wa2:=by
      rw [←HW2.out];exact oD aN HQL.out y46 HT.out.2.1 (by (have e1:lw+1+(D.wa.length-lw)=lw+1+(tn-lw):=by rw [HTN.out]);rw [e1];exact aZ hrow9 hwW) (fun j hj=>aZ (show World.ownsRow _ _ 3 1 _ _ _ from hq9 j hj) hwW) (aZ (show World.ownsRow _ _ 3 1 _ _ _ from hi9) hwW) (fun j _ hj=>bS (show World.ownsRow _ w.heap.size 3 1 _ _ _ from HT.out.2.2 j hj) hb79)
     have hap9:iH (qs ++ (.slice (some ⟨NI,0,none⟩) 1 1) :: ps.drop lw) wa2 (Value.slice rA rn rc).ownBlock:=by
      rw [←HW2.out];exact yB HQL.out y46 HAP.out (fun j hj q e e2=>by have h1:=(bV (show World.ownsRow _ _ 3 1 _ _ _ from hq9 j hj) q e2).1;have h2:=HRL.out q e;omega) (fun q e e2=>by have h1:=(bV (show World.ownsRow _ _ 3 1 _ _ _ from hi9) q e2).1;have h2:=HRL.out q e;omega)
     have hT9l:=hT9.1;have HT9:=ħ hT9;have HAP9:=ħ hap9;have HB9:=ħ hb79;clear hT9l hT9 hap9 hb79;show K0 _ _;apply HK0.out;dsimp only [gE,bF,cL,dJ,Tryz.f46,Option.getD];go_upto_region 19 with fail
     rename_i K0' hK0' K1' hK1';refine nm (w9.setCell ⟨gs,6,none⟩ (.slice A9 n9 c9)) fun Wf hWf=>?_;have hGf:=HG9.out.set_ 6 (.slice A9 n9 c9);have htg:=aC.setg (o:=6) (u:=.slice A9 n9 c9) HG9.out;have hTf:aP aN _ w.heap.size (.slice A9 n9 c9) _ wa2:=⟨aR HT9.out.1 htg y5,HT9.out.2.1,fun j hj=>aR (show World.ownsRow _ _ 3 1 _ _ _ from HT9.out.2.2 j hj) htg y5⟩;have hRf:aE _ w.heap.size (.slice rA rn rc) D.re:=aR (bS (show World.ownsRow _ _ 3 1 _ _ _ from HR.out) HB9.out) htg y5;have hHf:=(HH.out.up HB9.out).tkR htg;have hOf:=(HO.out.up HB9.out).tk htg y67 y5;have hWbf:=(HW.out.up HB9.out).far (p:=⟨gs,6,none⟩) hgwne (.slice A9 n9 c9);have hBbf:=(HBX.out.up HB9.out).far (p:=⟨gs,6,none⟩) hgbne (.slice A9 n9 c9);have hXf:bD _ w.heap.size (.slice bA bn bc) b.tx:=aR (bS (show World.ownsRow _ _ 41 4 _ _ _ from HX.out) HB9.out) htg y5;have hbf:=(hbW.trans (HB9.out.mono hwW)).setCell (p:=⟨gs,6,none⟩) hgs0 (.slice A9 n9 c9);rw [←hWf] at hGf hTf hRf hHf hOf hWbf hBbf hXf hbf ⊢;have hgwf:=hWbf.lt;exact nB P D d n2 b op2 he2 wa2 _ w Wf gw gs gb oA A9 eA rA bA on oc n9 c9 en ec rn rc bn bc hK0' hK1' hbf hgwf hgs0 hgwne hgbne hWbf hBbf hGf (iF hXf hbn) (fun X hX=>iF (aR (show World.ownsRow _ _ 41 4 _ _ _ from hXf) (aC.of_but hGf hX) y5) hbn) hbn hTf hRf HAP9.out hHf hOf hoc hom hbw2 hre2 HRIS.out HNS.out
theorem C6 {K0 K2:Act→World→Prop} (P:aF) (D:aD) (d n2:Int) (b:bY) (op2:List TxD) (he2:List bI) (wa2:List aV) (ps:List Value) (w W:World) (gw gs gb lw:Nat) (oA tA eA rA bA:Option Addr) (on oc tn tc en ec rn rc bn bc:Nat) {u0 u3 u4 u5 u8 nN lV lW kK kL kM kN lX kO kP kQ kR kS kT kU kV kX kY lB lC lD lE lF lH lI lJ lK mS oM oN oO oP oQ oR oS oT oU oV oW oX oY oZ pB pC pD pE pF pG pH pI pJ pK pL pM mT pN pO pP pQ pR pS qM qN qO qP qQ qR qT qU qV qW qX qY qZ rB rC rD rE rF rG rH rI rJ rK rL rM rN rO rZ sB gG gH gI gJ mR nO nP nQ nR qG qH qI qJ qK qL sR sS sU sV sW sX sY sZ tB tC tE tF tG tH tI tJ tK tM tN tO tP vM vN vO vP vQ vR vS vT vU vV vW vX vY vZ wA wB wC wD wE wF:Value}
 (hK0:∀a' w',Code.wp prog (cL gE) (bodyPost prog Tryz.f46 (fun e w'=>∃gs P' uA un uc us,e=.returned (.tuple #[.pointer (some ⟨gs,0,none⟩),z0])∧Blk w' gs 70 (cS ({D with op:=op2,next:=n2,age:=0,he:=he2,wa:=bH D.nodes wa2,re:=bE D.nodes D.re wa2}:aD) P' uA un uc)∧iL w' w.heap.size P' ({D with op:=op2,next:=n2,age:=0,he:=he2,wa:=bH D.nodes wa2,re:=bE D.nodes D.re wa2}:aD)∧aP cT w' w.heap.size (.slice uA un uc) us (dF D.id d b [] D.nodes.toNat)∧w.heap.size≤gs∧Below w w w')) a' w'→K0 a' w')
 (hK2:∀a' w',Code.wp prog (cL (CS (cL (dJ gE)))) (Exit.then K0 (bodyPost prog Tryz.f46 (fun e w'=>∃gs P' uA un uc us,e=.returned (.tuple #[.pointer (some ⟨gs,0,none⟩),z0])∧Blk w' gs 70 (cS ({D with op:=op2,next:=n2,age:=0,he:=he2,wa:=bH D.nodes wa2,re:=bE D.nodes D.re wa2}:aD) P' uA un uc)∧iL w' w.heap.size P' ({D with op:=op2,next:=n2,age:=0,he:=he2,wa:=bH D.nodes wa2,re:=bE D.nodes D.re wa2}:aD)∧aP cT w' w.heap.size (.slice uA un uc) us (dF D.id d b [] D.nodes.toNat)∧w.heap.size≤gs∧Below w w w'))) a' w'→K2 a' w')
 (hbW:Below w w W) (hgw0:gw<w.heap.size+1) (hgs0:w.heap.size≤gs) (hgwne:gw≠gs) (hgbne:gb≠gs) (hgww:w.heap.size≤gw)
 (hw:Blk W gw 27 (cW D P)) (hbx:Blk W gb 43 [b.au,b.n,.slice bA bn bc]) (hg:Blk W gs 70 [D.id,D.nodes,n2,.slice oA on oc,z0,D.clock,.slice tA tn tc,.slice eA en ec,.slice rA rn rc,n0])
 (hTx:bD W w.heap.size (.slice bA bn bc) b.tx) (hbn:bn≤800000000)
 (hT:aP aN W w.heap.size (.slice tA tn tc) ps D.wa) (hR:aE W w.heap.size (.slice rA rn rc) D.re) (hap:iH ps D.wa (Value.slice rA rn rc).ownBlock) (hH:bL W w.heap.size (.slice eA en ec) he2) (hO:kG W oA on op2) (hoc:on≤oc) (hom:oc≤9223372036854775807)
 (hbw:nU D.wa) (hwl:D.wa.length≤700000000) (hre:D.re.length+D.wa.length≤700000000) (hris:∀x∈wa2,dO x.ak D.nodes) (hns:isS D.nodes=true)
 (hw2:bM D.wa lw ⟨d,[D.id]⟩=wa2) (hlwt:lw≤tn) :
 Code.wp prog (dJ (CS (cL (dJ gE)))) (Exit.then K2 (Exit.then K0 (bodyPost prog Tryz.f46 (fun e w'=>∃gs P' uA un uc us,e=.returned (.tuple #[.pointer (some ⟨gs,0,none⟩),z0])∧Blk w' gs 70 (cS ({D with op:=op2,next:=n2,age:=0,he:=he2,wa:=bH D.nodes wa2,re:=bE D.nodes D.re wa2}:aD) P' uA un uc)∧iL w' w.heap.size P' ({D with op:=op2,next:=n2,age:=0,he:=he2,wa:=bH D.nodes wa2,re:=bE D.nodes D.re wa2}:aD)∧aP cT w' w.heap.size (.slice uA un uc) us (dF D.id d b [] D.nodes.toNat)∧w.heap.size≤gs∧Below w w w')))) {tmps:=#[u0,.int .i64 d,.pointer (some ⟨gw,0,none⟩),u3,u4,u5,.pointer (some ⟨gs,0,none⟩),.pointer (some ⟨gb,0,none⟩),u8,.int .i64 (lw:Int),nN,lV,lW,kK,kL,kM,kN,lX,kO,kP,kQ,kR,kS,kT,kU,kV,kX,kY,lB,lC,lD,lE,lF,lH,lI,lJ,lK,mS,oM,oN,oO,oP,oQ,oR,oS,oT,oU,oV,oW,oX,oY,oZ,pB,pC,pD,pE,pF,pG,pH,pI,pJ,pK,pL,pM,mT,pN,pO,pP,pQ,pR,pS,qM,qN,qO,qP,qQ,qR,qT,qU,qV,qW,qX,qY,qZ,rB,rC,rD,rE,rF,rG,rH,rI,rJ,rK,rL,rM,rN,rO,rZ,sB,gG,gH,gI,gJ,mR,nO,nP,nQ,nR,qG,qH,qI,qJ,qK,qL,sR,sS,sU,sV,sW,sX,sY,sZ,tB,tC,tE,tF,tG,tH,tI,tJ,tK,tM,tN,tO,tP,vM,vN,vO,vP,vQ,vR,vS,vT,vU,vV,vW,vX,vY,vZ,wA,wB,wC,wD,wE,wF],defers:=[]} W:=by
 have HTN:Hid (D.wa.length=tn):=ħ y28
 have htcn:tn≤tc:=by
  rcases eD hT.1 with ⟨e,_⟩|⟨q1,c1,e,_,h⟩
  · injection e with e1 e2 e3;omega
  · injection e with e1 e2 e3;have:=HTN.out;omega
 have hlwc:lw≤tc:=by omega
 have htn:tn≤700000000:=by rw [←HTN.out];exact hwl
 have HLL:Hid (lw≤D.wa.length):=ħ y46;have HBT:Hid (nU (D.wa.take lw)):=ħ ⟨by rw [List.length_take];omega,fun x hx=>hbw.2 x (List.mem_of_mem_take hx)⟩
 have HWR:Hid (eC W tA tn D.wa):=ħ (by
  obtain ⟨A',c',e',hR',_⟩:=cR.waits ⟨ps,hT⟩ hbw;injection e' with e1 e2 _;rw [e1,e2];exact hR')
 have HK0:=ħ hK0;have HK2:=ħ hK2;clear hK0 hK2;dsimp only [gE,bF,cL,dJ,CS,Tryz.f46,Option.getD];obtain ⟨S,hSd⟩:∃S:World→Prop,S=fun Q=>Q.cell? ⟨gs,6,none⟩=some (.slice tA tn tc)∧Q.cell? ⟨gw,0,none⟩=some (.int .i64 D.id):=⟨_,rfl⟩;have hS6:∀Q,S Q→Q.cell? ⟨gs,6,none⟩=some (.slice tA tn tc):=fun Q h=>by rw [hSd] at h;exact h.1
 have hS0:∀Q,S Q→Q.cell? ⟨gw,0,none⟩=some (.int .i64 D.id):=fun Q h=>by rw [hSd] at h;exact h.2
 have hS:∀Q,Below W W Q→S Q:=fun Q hQ=>by rw [hSd];exact ⟨(hg.up hQ).box.2 6 _ rfl,(hw.up hQ).box.2 0 _ rfl⟩
 clear hSd;refine hd hS fun hHeld=>?_;have hbd:=bdr W;have hZ:=hHeld;generalize W.drew=Z0 at *;refine tk 0 108 ?_;refine tk 1 109 ?_;refine tk 2 110 ?_;refine tk 3 111 ?_;refine tq 4 112 hS6 ?_;refine tk 5 113 ?_;refine tk 6 114 ?_;refine tk 8 116 ?_;refine tk 9 117 ?_;refine tq 10 118 hS0 ?_;refine ry2 7 11 (fun K hK=>?_) fun K hK=>?_
 · skip
   go_simp;(go_at_call 27;refine (fM tA lw _ (D.wa.take lw) _ ((HWR.out.up (hbd)).takeN hlwt) HBT.out).mono ?_;rintro e w3 ⟨v3,rfl,⟨qs,ho3⟩,hb3⟩)
   have hbC:=aA (hbd) hb3;have HO3:Hid (aP aN w3 W.heap.size v3 qs (D.wa.take lw)):=ħ (ho3.mono (hbd).size);clear ho3;refine hk hK (hS _ hbC) fun hHeld=>?_;clear hK K;refine ry 11 fun K hK=>?_;go_simp;refine nm w3.heap.size fun NI hNI=>?_;obtain ⟨ZI,hZI⟩:∃Zq:World,Zq=w3.alloc (.cells #[D.id] 3):=⟨_,rfl⟩;rw [←hNI,← hZI];have hkI:Blk ZI NI 3 [D.id]:=by rw [hZI,hNI];exact Blk.new _ 3 [D.id]
   have hbI:Below w3 w3 ZI:=by rw [hZI];exact aB (Below.refl _ _)
   have hNW:W.heap.size≤NI:=by rw [hNI];exact (hbC).size
   have hbJ:=aA (hbC) hbI;have HI1:=ħ hkI;clear hNI hZI hkI;have HO3x:=ħ (HO3.out.up hbI);refine hk hK (hS _ hbJ) fun hHeld=>?_;clear hK K;refine tk 12 120 ?_;refine ry 13 fun K hK=>?_;go_simp;refine nm ZI.heap.size fun NW hNWe=>?_;obtain ⟨ZW,hZW⟩:∃Zq:World,Zq=ZI.alloc (.cells #[d,.slice (some ⟨NI,0,none⟩) 1 1] 56):=⟨_,rfl⟩;rw [←hNWe,← hZW];have hkW:Blk ZW NW 56 [d,.slice (some ⟨NI,0,none⟩) 1 1]:=by rw [hZW,hNWe];exact Blk.new _ 56 [d,.slice (some ⟨NI,0,none⟩) 1 1]
   have hbY:Below ZI ZI ZW:=by rw [hZW];exact aB (Below.refl _ _)
   have hbZ9:=aA (hbJ) hbY;have HW1:=ħ hkW;clear hNWe hZW hkW;have HO3xx:=ħ (HO3x.out.up hbY);have HI1x:=ħ (HI1.out.up hbY);refine hk hK (hS _ hbZ9) fun hHeld=>?_;clear hK K;refine ry 14 fun K hK=>?_;have hrow3:=HO3xx.out.1;rw [List.length_take,Nat.min_eq_left HLL.out] at hrow3;refine jN rfl (.tmp 115) (.tmp 121) rfl rfl W.heap.size v3 lw _ y9 hrow3 (some ⟨NW,0,none⟩) 1 1 [d,.slice (some ⟨NI,0,none⟩) 1 1] y9 ⟨rfl,by omega,fun _=>⟨NW,0,rfl,HW1.out.lt,fun j u hu=>by rw [Nat.zero_add];exact HW1.out.box.2 j u hu⟩⟩ y16 y2 (hbZ9).size ?_;intro v7 w7 hown7 hg7 hb7;have hb7W:Below W W w7:=(hbZ9).trans hb7;refine hk hK (hS _ hb7W) fun hHeld=>?_;clear hK K;refine tk 15 10 ?_;refine wz ?_;show K2 _ _;apply HK2.out;have hql:qs.length=lw:=by have:=HO3.out.2.1;rw [List.length_take,Nat.min_eq_left HLL.out] at this;exact this
   have hq3:∀j,j<lw→aE w7 W.heap.size (qs.getD j default) (D.wa.getD j default).ak:=fun j hj=>by
    have h1:=HO3xx.out.2.2 j y61;have e1:(D.wa.take lw).getD j default=D.wa.getD j default:=by simp [hj]
    rw [e1] at h1;exact bT (show World.ownsRow _ _ 3 1 _ _ _ from h1) hrow3 y5 hg7
   have hi7:aE w7 W.heap.size (.slice (some ⟨NI,0,none⟩) 1 1) [D.id]:=bT (show World.ownsRow _ _ 3 1 _ _ _ from iG HI1x.out hNW) hrow3 y5 hg7;exact yF P D d n2 b op2 he2 wa2 ps w W gw gs gb lw oA tA eA rA bA on oc tn tc en ec rn rc bn bc NI v7 qs w7 HK0.out hbW hgw0 hgs0 hgwne hgbne hgww hw hbx hg hTx hbn hT hR hap hH hO hoc hom hbw hwl hre hris hns hw2 hlwt hb7W hb7W.size hown7 hql hq3 hi7
 · skip
   go_simp;refine nm Z0.heap.size fun NI hNI=>?_;obtain ⟨ZI,hZI⟩:∃Zq:World,Zq=Z0.alloc (.cells #[D.id] 3):=⟨_,rfl⟩;rw [←hNI,← hZI];have hkI:Blk ZI NI 3 [D.id]:=by rw [hZI,hNI];exact Blk.new _ 3 [D.id]
   have hbI:Below Z0 Z0 ZI:=by rw [hZI];exact aB (Below.refl _ _)
   have hNW:W.heap.size≤NI:=by rw [hNI];exact (hbd).size
   have hbJ:=aA (hbd) hbI;have HI1:=ħ hkI;clear hNI hZI hkI;refine hk hK (hS _ hbJ) fun hHeld=>?_;clear hK K;refine tk 12 120 ?_;refine ry2 7 13 (fun K hK=>?_) fun K hK=>?_
   · skip
     go_simp;(go_at_call 27;refine (fM tA lw _ (D.wa.take lw) _ ((HWR.out.up (hbJ)).takeN hlwt) HBT.out).mono ?_;rintro e w3 ⟨v3,rfl,⟨qs,ho3⟩,hb3⟩)
     have hbC:=aA (hbJ) hb3;have HO3:Hid (aP aN w3 W.heap.size v3 qs (D.wa.take lw)):=ħ (ho3.mono (hbJ).size);clear ho3;have HI1x:=ħ (HI1.out.up hb3);refine hk hK (hS _ hbC) fun hHeld=>?_;clear hK K;refine ry 13 fun K hK=>?_;go_simp;refine nm w3.heap.size fun NW hNWe=>?_;obtain ⟨ZW,hZW⟩:∃Zq:World,Zq=w3.alloc (.cells #[d,.slice (some ⟨NI,0,none⟩) 1 1] 56):=⟨_,rfl⟩;rw [←hNWe,← hZW];have hkW:Blk ZW NW 56 [d,.slice (some ⟨NI,0,none⟩) 1 1]:=by rw [hZW,hNWe];exact Blk.new _ 56 [d,.slice (some ⟨NI,0,none⟩) 1 1]
     have hbY:Below w3 w3 ZW:=by rw [hZW];exact aB (Below.refl _ _)
     have hbZ9:=aA (hbC) hbY;have HW1:=ħ hkW;clear hNWe hZW hkW;have HO3x:=ħ (HO3.out.up hbY);have HI1xx:=ħ (HI1x.out.up hbY);refine hk hK (hS _ hbZ9) fun hHeld=>?_;clear hK K;refine ry 14 fun K hK=>?_;have hrow3:=HO3x.out.1;rw [List.length_take,Nat.min_eq_left HLL.out] at hrow3;refine jN rfl (.tmp 115) (.tmp 121) rfl rfl W.heap.size v3 lw _ y9 hrow3 (some ⟨NW,0,none⟩) 1 1 [d,.slice (some ⟨NI,0,none⟩) 1 1] y9 ⟨rfl,by omega,fun _=>⟨NW,0,rfl,HW1.out.lt,fun j u hu=>by rw [Nat.zero_add];exact HW1.out.box.2 j u hu⟩⟩ y16 y2 (hbZ9).size ?_;intro v7 w7 hown7 hg7 hb7;have hb7W:Below W W w7:=(hbZ9).trans hb7;refine hk hK (hS _ hb7W) fun hHeld=>?_;clear hK K;refine tk 15 10 ?_;refine wz ?_;show K2 _ _;apply HK2.out;have hql:qs.length=lw:=by have:=HO3.out.2.1;rw [List.length_take,Nat.min_eq_left HLL.out] at this;exact this
     have hq3:∀j,j<lw→aE w7 W.heap.size (qs.getD j default) (D.wa.getD j default).ak:=fun j hj=>by
      have h1:=HO3x.out.2.2 j y61;have e1:(D.wa.take lw).getD j default=D.wa.getD j default:=by simp [hj]
      rw [e1] at h1;exact bT (show World.ownsRow _ _ 3 1 _ _ _ from h1) hrow3 y5 hg7
     have hi7:aE w7 W.heap.size (.slice (some ⟨NI,0,none⟩) 1 1) [D.id]:=bT (show World.ownsRow _ _ 3 1 _ _ _ from iG HI1xx.out hNW) hrow3 y5 hg7;exact yF P D d n2 b op2 he2 wa2 ps w W gw gs gb lw oA tA eA rA bA on oc tn tc en ec rn rc bn bc NI v7 qs w7 HK0.out hbW hgw0 hgs0 hgwne hgbne hgww hw hbx hg hTx hbn hT hR hap hH hO hoc hom hbw hwl hre hris hns hw2 hlwt hb7W hb7W.size hown7 hql hq3 hi7
   · skip
     go_simp;refine nm ZI.heap.size fun NW hNWe=>?_;obtain ⟨ZW,hZW⟩:∃Zq:World,Zq=ZI.alloc (.cells #[d,.slice (some ⟨NI,0,none⟩) 1 1] 56):=⟨_,rfl⟩;rw [←hNWe,← hZW];have hkW:Blk ZW NW 56 [d,.slice (some ⟨NI,0,none⟩) 1 1]:=by rw [hZW,hNWe];exact Blk.new _ 56 [d,.slice (some ⟨NI,0,none⟩) 1 1]
     have hbY:Below ZI ZI ZW:=by rw [hZW];exact aB (Below.refl _ _)
     have hbZ9:=aA (hbJ) hbY;have HW1:=ħ hkW;clear hNWe hZW hkW;have HI1x:=ħ (HI1.out.up hbY);refine hk hK (hS _ hbZ9) fun hHeld=>?_;clear hK K;refine ry 7 fun K hK=>?_;go_simp;(go_at_call 27;refine (fM tA lw _ (D.wa.take lw) _ ((HWR.out.up (hbZ9)).takeN hlwt) HBT.out).mono ?_;rintro e w3 ⟨v3,rfl,⟨qs,ho3⟩,hb3⟩)
     have hbC:=aA (hbZ9) hb3;have HO3:Hid (aP aN w3 W.heap.size v3 qs (D.wa.take lw)):=ħ (ho3.mono (hbZ9).size);clear ho3;have HI1xx:=ħ (HI1x.out.up hb3);have HW1x:=ħ (HW1.out.up hb3);refine hk hK (hS _ hbC) fun hHeld=>?_;clear hK K;refine ry 14 fun K hK=>?_;have hrow3:=HO3.out.1;rw [List.length_take,Nat.min_eq_left HLL.out] at hrow3;refine jN rfl (.tmp 115) (.tmp 121) rfl rfl W.heap.size v3 lw _ y9 hrow3 (some ⟨NW,0,none⟩) 1 1 [d,.slice (some ⟨NI,0,none⟩) 1 1] y9 ⟨rfl,by omega,fun _=>⟨NW,0,rfl,HW1x.out.lt,fun j u hu=>by rw [Nat.zero_add];exact HW1x.out.box.2 j u hu⟩⟩ y16 y2 (hbC).size ?_;intro v7 w7 hown7 hg7 hb7;have hb7W:Below W W w7:=(hbC).trans hb7;refine hk hK (hS _ hb7W) fun hHeld=>?_;clear hK K;refine tk 15 10 ?_;refine wz ?_;show K2 _ _;apply HK2.out;have hql:qs.length=lw:=by have:=HO3.out.2.1;rw [List.length_take,Nat.min_eq_left HLL.out] at this;exact this
     have hq3:∀j,j<lw→aE w7 W.heap.size (qs.getD j default) (D.wa.getD j default).ak:=fun j hj=>by
      have h1:=HO3.out.2.2 j y61;have e1:(D.wa.take lw).getD j default=D.wa.getD j default:=by simp [hj]
      rw [e1] at h1;exact bT (show World.ownsRow _ _ 3 1 _ _ _ from h1) hrow3 y5 hg7
     have hi7:aE w7 W.heap.size (.slice (some ⟨NI,0,none⟩) 1 1) [D.id]:=bT (show World.ownsRow _ _ 3 1 _ _ _ from iG HI1xx.out hNW) hrow3 y5 hg7;exact yF P D d n2 b op2 he2 wa2 ps w W gw gs gb lw oA tA eA rA bA on oc tn tc en ec rn rc bn bc NI v7 qs w7 HK0.out hbW hgw0 hgs0 hgwne hgbne hgww hw hbx hg hTx hbn hT hR hap hH hO hoc hom hbw hwl hre hris hns hw2 hlwt hb7W hb7W.size hown7 hql hq3 hi7
theorem Bj {K0 K1:Act→World→Prop} (P:aF) (D:aD) (d n2:Int) (b:bY) (op2:List TxD) (he2:List bI) (wa2:List aV) (ps:List Value) (w W:World) (gw gs gb lw:Nat) (oA tA eA rA bA:Option Addr) (on oc tn tc en ec rn rc bn bc:Nat) {u0 u3 u4 u5 u8 nN lV lW kK kL kM kN lX kO kP kQ kR kS kT kU kV kX kY lB lC lD lE lF lH lI lJ lK mS oM oN oO oP oQ oR oS oT oU oV oW oX oY oZ pB pC pD pE pF pG pH pI pJ pK pL pM mT pN pO pP pQ pR pS qM qN qO qP qQ qR qT qU qV qW qX qY qZ rB rC rD rE rF rG rH rI rJ rK rL rM rN rO rZ sB gG gH gI gJ mR nO nP nQ nR qG qH qI qJ qK qL sR sS sU sV sW sX sY sZ tB tC tE tF tG tH tI tJ tK tM tN tO tP vM vN vO vP vQ vR vS vT vU vV vW vX vY vZ wA wB wC wD wE wF:Value}
 (hK0:∀a' w',Code.wp prog (cL gE) (bodyPost prog Tryz.f46 (fun e w'=>∃gs P' uA un uc us,e=.returned (.tuple #[.pointer (some ⟨gs,0,none⟩),z0])∧Blk w' gs 70 (cS ({D with op:=op2,next:=n2,age:=0,he:=he2,wa:=bH D.nodes wa2,re:=bE D.nodes D.re wa2}:aD) P' uA un uc)∧iL w' w.heap.size P' ({D with op:=op2,next:=n2,age:=0,he:=he2,wa:=bH D.nodes wa2,re:=bE D.nodes D.re wa2}:aD)∧aP cT w' w.heap.size (.slice uA un uc) us (dF D.id d b [] D.nodes.toNat)∧w.heap.size≤gs∧Below w w w')) a' w'→K0 a' w')
 (hK1:∀a' w',Code.wp prog (cL (dJ gE)) (Exit.then K0 (bodyPost prog Tryz.f46 (fun e w'=>∃gs P' uA un uc us,e=.returned (.tuple #[.pointer (some ⟨gs,0,none⟩),z0])∧Blk w' gs 70 (cS ({D with op:=op2,next:=n2,age:=0,he:=he2,wa:=bH D.nodes wa2,re:=bE D.nodes D.re wa2}:aD) P' uA un uc)∧iL w' w.heap.size P' ({D with op:=op2,next:=n2,age:=0,he:=he2,wa:=bH D.nodes wa2,re:=bE D.nodes D.re wa2}:aD)∧aP cT w' w.heap.size (.slice uA un uc) us (dF D.id d b [] D.nodes.toNat)∧w.heap.size≤gs∧Below w w w'))) a' w'→K1 a' w')
 (hbW:Below w w W) (hgw0:gw<w.heap.size+1) (hgs0:w.heap.size≤gs) (hgwne:gw≠gs) (hgbne:gb≠gs) (hgww:w.heap.size≤gw)
 (hw:Blk W gw 27 (cW D P)) (hbx:Blk W gb 43 [b.au,b.n,.slice bA bn bc]) (hg:Blk W gs 70 [D.id,D.nodes,n2,.slice oA on oc,z0,D.clock,.slice tA tn tc,.slice eA en ec,.slice rA rn rc,n0])
 (hTx:bD W w.heap.size (.slice bA bn bc) b.tx) (hbn:bn≤800000000)
 (hT:aP aN W w.heap.size (.slice tA tn tc) ps D.wa) (hR:aE W w.heap.size (.slice rA rn rc) D.re) (hap:iH ps D.wa (Value.slice rA rn rc).ownBlock) (hH:bL W w.heap.size (.slice eA en ec) he2) (hO:kG W oA on op2) (hoc:on≤oc) (hom:oc≤9223372036854775807)
 (hbw:nU D.wa) (hwl:D.wa.length≤700000000) (hre:D.re.length+D.wa.length≤700000000) (hris:∀x∈wa2,dO x.ak D.nodes) (hns:isS D.nodes=true)
 (hwe:dR D d=wa2) (hlw:eK D.wa d=lw) (hsW:gK D.wa) :
 Code.wp prog (dJ (dJ gE)) (Exit.then K1 (Exit.then K0 (bodyPost prog Tryz.f46 (fun e w'=>∃gs P' uA un uc us,e=.returned (.tuple #[.pointer (some ⟨gs,0,none⟩),z0])∧Blk w' gs 70 (cS ({D with op:=op2,next:=n2,age:=0,he:=he2,wa:=bH D.nodes wa2,re:=bE D.nodes D.re wa2}:aD) P' uA un uc)∧iL w' w.heap.size P' ({D with op:=op2,next:=n2,age:=0,he:=he2,wa:=bH D.nodes wa2,re:=bE D.nodes D.re wa2}:aD)∧aP cT w' w.heap.size (.slice uA un uc) us (dF D.id d b [] D.nodes.toNat)∧w.heap.size≤gs∧Below w w w')))) {tmps:=#[u0,.int .i64 d,.pointer (some ⟨gw,0,none⟩),u3,u4,u5,.pointer (some ⟨gs,0,none⟩),.pointer (some ⟨gb,0,none⟩),u8,.int .i64 (lw:Int),nN,lV,lW,kK,kL,kM,kN,lX,kO,kP,kQ,kR,kS,kT,kU,kV,kX,kY,lB,lC,lD,lE,lF,lH,lI,lJ,lK,mS,oM,oN,oO,oP,oQ,oR,oS,oT,oU,oV,oW,oX,oY,oZ,pB,pC,pD,pE,pF,pG,pH,pI,pJ,pK,pL,pM,mT,pN,pO,pP,pQ,pR,pS,qM,qN,qO,qP,qQ,qR,qT,qU,qV,qW,qX,qY,qZ,rB,rC,rD,rE,rF,rG,rH,rI,rJ,rK,rL,rM,rN,rO,rZ,sB,gG,gH,gI,gJ,mR,nO,nP,nQ,nR,qG,qH,qI,qJ,qK,qL,sR,sS,sU,sV,sW,sX,sY,sZ,tB,tC,tE,tF,tG,tH,tI,tJ,tK,tM,tN,tO,tP,vM,vN,vO,vP,vQ,vR,vS,vT,vU,vV,vW,vX,vY,vZ,wA,wB,wC,wD,wE,wF],defers:=[]} W:=by
 have HTN:Hid (D.wa.length=tn):=ħ y28;have hlwt:lw≤tn:=by rw [←hlw,← HTN.out];exact gD _ _
 refine mn (eW D.wa d) fun y hy=>?_;have HY:=ħ hy;have HWE:=ħ hwe;have HLW:=ħ hlw;have HSW:=ħ hsW;have HK0:=ħ hK0;have HK1:=ħ hK1;have lg:=hg.lt;obtain ⟨a_0,a_1,a_2,a_3,a_4,a_5,a_6,a_7,a_8,a_9⟩:=gO hg.box;clear hK0 hK1 hwe hlw hsW hy;dsimp only [gE,bF,cL,dJ,Tryz.f46,Option.getD];rcases Nat.lt_or_ge lw tn with hlt|hge
 · have hkl:lw<D.wa.length:=by rw [HTN.out];exact hlt
   have hT1:=hT.1;rw [HTN.out] at hT1;obtain ⟨gt,eA,hgtB,hgtl⟩:=qA hT1 y2;subst eA;obtain ⟨gg,fg⟩:=lQ hT1;have c0:W.cell? ⟨gt,lw*2,none⟩=some (.int .i64 (wth D.wa lw).di):=gg _ _ (by have:=cO aN hT.2.1 hkl (r:=0) (by show 0<2;omega);rw [show lw*2=lw*aN.k+0 from rfl,this];rfl);have he1:((lw:Int) == (tn:Int))=false:=by simp;omega
   have hlk:(lw:Int)<(tn:Int):=by omega
   clear hT1 gg fg;cases y
   · have hdne:((wth D.wa lw).di != d)=true:=by
      simp only [bne_iff_ne,ne_eq];intro e;have:=(E4 HSW.out).2 ⟨lw,hkl,e⟩;rw [HY.out] at this;cases this
     go_wp2_with fail
     show K1 _ _;apply HK1.out;dsimp only [gE,bF,cL,dJ,Tryz.f46,Option.getD];have hw2:bM D.wa lw ⟨d,[D.id]⟩=wa2:=by rw [←HWE.out];unfold dR;rw [if_neg y73,HLW.out]
     go_upto_region 17 with fail
     rename_i K2 hK2;exact C6 P D d n2 b op2 he2 wa2 ps w W gw gs gb lw oA (some ⟨gt,0,none⟩) eA rA bA on oc tn tc en ec rn rc bn bc HK0.out hK2 hbW hgw0 hgs0 hgwne hgbne hgww hw hbx hg hTx hbn hT hR hap hH hO hoc hom hbw hwl hre hris hns hw2 hlwt
   · have hdne:((wth D.wa lw).di != d)=false:=by
      have:=(AT HLW.out HY.out).2;simp [this]
     obtain rfl:wa2=D.wa:=by rw [←HWE.out];unfold dR;rw [if_pos HY.out]
     go_wp2_with fail
     show K1 _ _;apply HK1.out;dsimp only [gE,bF,cL,dJ,Tryz.f46,Option.getD];clear c0;go_wp2_with fail
     show K0 _ _;apply HK0.out;dsimp only [gE,bF,cL,dJ,Tryz.f46,Option.getD];go_upto_region 19 with fail
     rename_i K0' hK0' K1' hK1';exact nB P D d n2 b op2 he2 D.wa ps w W gw gs gb oA _ eA rA bA on oc tn tc en ec rn rc bn bc hK0' hK1' hbW hw.lt hgs0 hgwne hgbne hw hbx hg (iF hTx hbn) (fun X hX=>iF (aR (show World.ownsRow _ _ 41 4 _ _ _ from hTx) (aC.of_but hg hX) y5) hbn) hbn hT hR hap hH hO hoc hom hbw y2 hris hns
 · have he1:((lw:Int) == (tn:Int))=true:=by simp;omega
   cases y
   · skip
     go_wp2_with fail
     show K1 _ _;apply HK1.out;dsimp only [gE,bF,cL,dJ,Tryz.f46,Option.getD];have hw2:bM D.wa lw ⟨d,[D.id]⟩=wa2:=by rw [←HWE.out];unfold dR;rw [if_neg y73,HLW.out]
     go_upto_region 17 with fail
     rename_i K2 hK2;exact C6 P D d n2 b op2 he2 wa2 ps w W gw gs gb lw oA tA eA rA bA on oc tn tc en ec rn rc bn bc HK0.out hK2 hbW hgw0 hgs0 hgwne hgbne hgww hw hbx hg hTx hbn hT hR hap hH hO hoc hom hbw hwl hre hris hns hw2 hlwt
   · have:=(AT HLW.out HY.out).1;have:=HTN.out;omega
end Go.Proofs.YtgfakefcmbpboaaGreat
