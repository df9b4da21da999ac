/- Part 25 of what WorkerExact leans on. No conditions. -/
import Derived.Test.YtgfakefcmbpboaaGreatV24
namespace Go.Proofs.YtgfakefcmbpboaaGreat
set_option linter.all false
set_option maxRecDepth 100000
set_option maxHeartbeats 64000000
open _root_.Go.Proofs.Tryz Go.RowKit
open Tok
theorem ID (l:List Int) (x:Int) (y:Bool) (h:cQ l x=y):decide (inS l x<0)=!y:=by
 subst h;unfold cQ;by_cases hm:x∈l
 · have:¬inS l x<0:=fun q=>iT.1 q hm;simp [hm,this]
 · have:inS l x<0:=iT.2 hm;simp [hm,this]
noncomputable def uG:Code:=bF 5 (Tryz.f54.body.getD .skip)
theorem yN {K0 K1:Act→World→Prop} (P:aF) (D:aD) (w w1 W:World) (gw gs:Nat) (a2 c2:Int) (oA tA eA rA:Option Addr) (on oc tn tc en ec rn rc:Nat) {u0 u2 u4 u5 u6 u7 u8 u9 nN lV lW kK kL kM kN lX kO kP kQ kR kS kT kU kV kX kY lB lC lD lE lF lH lI lJ lK mS oM oN oO oP oQ oR oS oT oU oV oW oX oY oZ pB pC pD pE pF pG pH pI pJ pK pL pM mT pN pO pP pQ pR pS qM qN qO qP qQ qR qT qU qV qW qX qY qZ rB rC rD rE rF rG rH rI rJ rK rL rM rN rO rZ sB gG gH gI gJ mR nO nP nQ nR:Value}
 (hK0:∀a' w',Code.wp prog (cL uG) (bodyPost prog Tryz.f54 (fun e w'=>∃gs P' A n c ps,e=.returned (.pointer (some ⟨gs,0,none⟩))∧Blk w' gs 70 (cS ({D with clock:=c2,age:=a2}:aD) P' A n c)∧aX w' w.heap.size P' ({D with clock:=c2,age:=a2}:aD)∧aP cT w' w.heap.size (.slice A n c) ps (dD D D.wa.length)∧w.heap.size≤gs∧Below w w w')) a' w'→K0 a' w')
 (hK1:∀a' w',Code.wp prog (cL (dJ uG)) (Exit.then K0 (bodyPost prog Tryz.f54 (fun e w'=>∃gs P' A n c ps,e=.returned (.pointer (some ⟨gs,0,none⟩))∧Blk w' gs 70 (cS ({D with clock:=c2,age:=a2}:aD) P' A n c)∧aX w' w.heap.size P' ({D with clock:=c2,age:=a2}:aD)∧aP cT w' w.heap.size (.slice A n c) ps (dD D D.wa.length)∧w.heap.size≤gs∧Below w w w'))) a' w'→K1 a' w')
 (ho:aX w1 w.heap.size ⟨⟨oA,on,oc⟩,⟨tA,tn,tc⟩,⟨eA,en,ec⟩,⟨rA,rn,rc⟩⟩ D) (hm:dZ D=true) (hs:dY D) (htn:D.wa.length≤1000000) (hb1:Below w w w1) (hbW:Below w1 w1 W) (hgw0:w.heap.size≤gw) (hgw1:gw<w1.heap.size) (hgs0:w1.heap.size≤gs)
 (hw:Blk W gw 27 (cW D P)) (hg:Blk W gs 70 [D.id,D.nodes,D.next,.slice oA on oc,a2,c2,.slice tA tn tc,.slice eA en ec,.slice rA rn rc,n0]) :
 Code.wp prog (dJ (dJ uG)) (Exit.then K1 (Exit.then K0 (bodyPost prog Tryz.f54 (fun e w'=>∃gs P' A n c ps,e=.returned (.pointer (some ⟨gs,0,none⟩))∧Blk w' gs 70 (cS ({D with clock:=c2,age:=a2}:aD) P' A n c)∧aX w' w.heap.size P' ({D with clock:=c2,age:=a2}:aD)∧aP cT w' w.heap.size (.slice A n c) ps (dD D D.wa.length)∧w.heap.size≤gs∧Below w w w')))) {tmps:=#[u0,.pointer (some ⟨gw,0,none⟩),u2,.pointer (some ⟨gs,0,none⟩),u4,u5,u6,u7,u8,u9,nN,lV,lW,kK,kL,kM,kN,lX,kO,kP,kQ,kR,kS,kT,kU,kV,kX,kY,lB,lC,lD,lE,lF,lH,lI,lJ,lK,mS,oM,oN,oO,oP,oQ,oR,oS,oT,oU,oV,oW,oX,oY,oZ,pB,pC,pD,pE,pF,pG,pH,pI,pJ,pK,pL,pM,mT,pN,pO,pP,pQ,pR,pS,qM,qN,qO,qP,qQ,qR,qT,qU,qV,qW,qX,qY,qZ,rB,rC,rD,rE,rF,rG,rH,rI,rJ,rK,rL,rM,rN,rO,rZ,sB,gG,gH,gI,gJ,mR,nO,nP,nQ,nR],defers:=[]} W:=by
 have h:=ho.work hs;have HOW:=ħ ho;have H:=ħ h;have hM:=cX.1 hm;have hn1:1≤D.nodes:=(gR hM.1).1;have hn16:D.nodes≤16:=(gR hM.1).2;have HSO:Hid (dQ D.he):=ħ (fD.1 hM.2.2.2.2.2.2.2.2.2.2.1).sorted;have HBIG:=ħ hs.he;have HTN:Hid (D.wa.length=tn):=ħ h.wa.1;have htn6:tn≤1000000:=by have e1:=h.wa.1;dsimp only at e1;omega
 have HK0:=ħ hK0;have HK1:=ħ hK1;have HGW:=ħ hw;have HG0:=ħ hg;have hgsW:=hg.lt;have hwsz:=hb1.size;clear ho h hm hM hs htn hK0 hK1 hw hg;dsimp only [uG,bF,cL,dJ,Tryz.f54,Option.getD];go_wp2_with fail
 show K1 _ _;apply HK1.out;dsimp only [uG,bF,cL,dJ,Tryz.f54,Option.getD];go_wp2_with fail
 go_loopw [4] (fun iv wr=>∃(k:Nat) (uA:Option Addr) (un uc:Nat) (ps:List bQ),k≤tn∧iv=.int .i64 k∧Hid (Blk wr gs 70 [D.id,D.nodes,D.next,.slice oA on oc,a2,c2,.slice tA tn tc,.slice eA en ec,.slice rA rn rc,.slice uA un uc])∧Hid (aP cT wr W.heap.size (.slice uA un uc) ps (dD D k))∧But W.heap.size gs W wr) (fun iv _=>tn-(intOf iv).toNat)
 case atStart=>exact ⟨0,none,0,0,[],Nat.zero_le _,rfl,HG0,ħ (aP.nil _ _),But.refl _ _ _⟩
 case round=>
  obtain ⟨k,uA,un,uc,ps,hk,rfl,HGS,HO,hbut⟩:=hrel
  (obtain ⟨wk,hwk⟩:∃x,x=wr:=⟨_,rfl⟩);subst hwk
  have hszk:=hbut.size;have hbw0:Below w1 w1 wk:=hbW.trans ((hbut.below (Nat.le_of_lt hgsW)).mono hgs0);have lgk:=HGS.out.lt;have s_0:=(HGS.out.box).2 0 _ rfl;have s_1:=(HGS.out.box).2 1 _ rfl;have s_2:=(HGS.out.box).2 2 _ rfl;have s_3:=(HGS.out.box).2 3 _ rfl;have s_4:=(HGS.out.box).2 4 _ rfl;have s_5:=(HGS.out.box).2 5 _ rfl;have s_6:=(HGS.out.box).2 6 _ rfl;have s_7:=(HGS.out.box).2 7 _ rfl;have s_8:=(HGS.out.box).2 8 _ rfl;have s_9:=(HGS.out.box).2 9 _ rfl;by_cases hlt:k<tn
  · obtain ⟨b,off,e1,hb,hc⟩:=H.out.wa.2.2 (by show 0<tn;omega);dsimp only at e1;subst e1;obtain ⟨nA,nn,nc,⟨w0,w1'⟩,hNT⟩:=hc k hlt;have HNT:=ħ hNT;have q0:=(hbw0.cell (p:=⟨b,off+k*2,none⟩) hb).trans w0;have q1:=(hbw0.cell (p:=⟨b,off+k*2+1,none⟩) hb).trans w1';have hbl:b<wk.heap.size:=Nat.lt_of_lt_of_le hb hbw0.size;refine mn (bB D.he (wth D.wa k).di) fun lo hlo=>?_;refine mn (dL D.he (wth D.wa k).di) fun y hy=>?_;have HLO:=ħ hlo;have HY:=ħ hy;have hlk:(k:Int)<(tn:Int):=by omega
    clear hc hNT hlo hy;go_upto_region 11 with fail
    have hb9:Below wk wk (wk.alloc (.cells #[.int .i64 (wth D.wa k).di,.slice nA nn nc] 56)):=y0;have HG9:Hid (Blk (wk.alloc (.cells #[.int .i64 (wth D.wa k).di,.slice nA nn nc] 56)) wk.heap.size 56 [.int .i64 (wth D.wa k).di,.slice nA nn nc]):=ħ (Blk.new wk 56 [.int .i64 (wth D.wa k).di,.slice nA nn nc]);refine nm wk.heap.size fun g9 hg9=>?_;refine nm (wk.alloc (.cells #[.int .i64 (wth D.wa k).di,.slice nA nn nc] 56)) fun w9 hw9=>?_;rw [←hw9,← hg9] at HG9 ⊢;rw [←hw9] at hb9;have hg9s:gs<g9:=by rw [hg9];exact lgk
    clear hw9 hg9 w0 w1' q0 q1 hbl s_0 s_1 s_2 s_3 s_4 s_5 s_6 s_7 s_8 s_9;have HGS9:=ħ (HGS.out.up hb9);have HO9:=ħ (HO.out.up hb9);have hbut9:=hbut.trans (But.of_below (hb9.mono hszk));have l9:=HG9.out.lt;have x_0:=HG9.out.box.2 0 _ rfl;have hb1x:Below w1 w1 w9:=hbw0.trans (hb9.mono hbw0.size);cases y
    · have hF:fC D.he (wth D.wa k).di=-1:=by unfold fC;rw [if_neg y73]
      have HF:=ħ hF;have hs:dD D (k+1)=dD D k:=by rw [nC,if_neg y73,List.append_nil]
      have HS:=ħ hs;clear hF hs;go_wp2_with (go_at_call 83;refine (eI gs _ _ _ _ _ _ _ _ _ eA en ec D.he (wth D.wa k).di _ HGS9.out (H.out.he.up hb1x) HSO.out).mono ?_;rintro e w' ⟨rfl,rfl⟩)
      rw [HF.out];clear x_0 l9
      go_loop [7] (fun nv=>nv=.int .i64 1) (fun _=>0)
      case atStart=>rfl
      case round=>
       obtain rfl:=hrel;have HWm:=But.blkk hbut9 HGW.out HGW.out.lt (by omega);have lwm:=HWm.lt;have w_1:=HWm.box.2 1 _ rfl;have hle:decide (1≤D.nodes)=true:=by simp only [decide_eq_true_eq];omega
       clear HWm;go_wp2_with fail
       (refine rnd ?_;exact ⟨k+1,uA,un,uc,ps,by omega,by go_num,HGS9,by (rw [HS.out];exact HO9),hbut9⟩)
    · obtain ⟨hlo1,hlo2⟩:=oB HLO.out HY.out;have hlen1:lo<en:=by have e1:=H.out.he.1;dsimp only at e1;omega
      obtain ⟨b2,o2,e2,hb2,hc2⟩:=H.out.he.2.2 (by show 0<en;omega);dsimp only at e2;subst e2;obtain ⟨bA,bn,bc,⟨f0,f1,f2,f3⟩,hTX⟩:=hc2 lo hlen1;have hbn:bn≤800000000:=by rw [←hTX.1];exact HBIG.out.2 _ (cB hlo1)
      have HBN:Hid ((hth D.he lo).b.tx.length=bn):=ħ hTX.1;have HF:Hid (w1.cell? ⟨b2,o2+lo*4+1,none⟩=some (.int .i64 (hth D.he lo).b.au)∧w1.cell? ⟨b2,o2+lo*4+2,none⟩=some (.int .i64 (hth D.he lo).b.n)∧w1.cell? ⟨b2,o2+lo*4+3,none⟩=some (.slice bA bn bc)):=ħ ⟨f1,f2,f3⟩;have HTX:=ħ hTX;have hF:fC D.he (wth D.wa k).di=(lo:Int):=by unfold fC;rw [if_pos HY.out,HLO.out]
      have HFI:=ħ hF;have hs:dD D (k+1)=dD D k ++ dF D.id (wth D.wa k).di (hth D.he lo).b (wth D.wa k).ak D.nodes.toNat:=by rw [nC,if_pos HY.out,HLO.out]
      have HS:=ħ hs;clear hF hs hTX hc2 f0 f1 f2 f3;go_wp2_with (go_at_call 83;refine (eI gs _ _ _ _ _ _ _ _ _ (some ⟨b2,o2,none⟩) en ec D.he (wth D.wa k).di _ HGS9.out (H.out.he.up hb1x) HSO.out).mono ?_;rintro e w' ⟨rfl,rfl⟩)
      rw [HFI.out];clear x_0 l9
      go_loopw [7] (fun nv wr=>∃(m:Nat) (uA:Option Addr) (un uc:Nat) (ps:List bQ),nv=.int .i64 ((m:Int)+1)∧(m:Int)≤D.nodes∧Hid (Blk wr gs 70 [D.id,D.nodes,D.next,.slice oA on oc,a2,c2,.slice (some ⟨b,off,none⟩) tn tc,.slice (some ⟨b2,o2,none⟩) en ec,.slice rA rn rc,.slice uA un uc])∧Hid (Blk wr g9 56 [.int .i64 (wth D.wa k).di,.slice nA nn nc])∧Hid (aP cT wr W.heap.size (.slice uA un uc) ps (dD D k ++ dF D.id (wth D.wa k).di (hth D.he lo).b (wth D.wa k).ak m))∧But W.heap.size gs W wr) (fun nv _=>18-(intOf nv).toNat)
      case atStart=>exact ⟨0,uA,un,uc,ps,by go_num,by omega,HGS9,HG9,by (rw [show dF D.id (wth D.wa k).di (hth D.he lo).b (wth D.wa k).ak 0=[] from rfl,List.append_nil];exact HO9),hbut9⟩
      case round=>
       clear HGS9 HO9 HG9 hbut9 hbut hb9 hszk hbw0 HGS HO uA un uc ps;obtain ⟨m,uA,un,uc,ps,rfl,hm16,HGS,HG9,HO,hbutm⟩:=hrel
       (obtain ⟨wm,hwm⟩:∃x,x=wr:=⟨_,rfl⟩);subst hwm
       have hszm:=hbutm.size;have hbX:∀X,But W.heap.size gs wm X→Below w1 w1 X:=fun X hX=>hbW.trans (((hbutm.trans hX).below (Nat.le_of_lt hgsW)).mono hgs0);have HWm:=But.blkk hbutm HGW.out HGW.out.lt (by omega);have lwm:=HWm.lt;have w_0:=HWm.box.2 0 _ rfl;have w_1:=HWm.box.2 1 _ rfl;have l9m:=HG9.out.lt;have x_0:=HG9.out.box.2 0 _ rfl;have x_1:=HG9.out.box.2 1 _ rfl;clear HWm;have hge:decide (0≤(lo:Int))=true:=by simp only [decide_eq_true_eq];omega
       by_cases hmn:(m:Int)<D.nodes
       · have hle:decide ((m:Int)+1≤D.nodes)=true:=by simp only [decide_eq_true_eq];omega
         by_cases hid:(m:Int)+1=D.id
         · have hs2:dF D.id (wth D.wa k).di (hth D.he lo).b (wth D.wa k).ak (m+1)=dF D.id (wth D.wa k).di (hth D.he lo).b (wth D.wa k).ak m ++ []:=by rw [dF,if_neg (fun h=>h.1 hid)]
           have HS2:=ħ hs2;have hne:(((m:Int)+1) != D.id)=false:=by simp [hid]
           clear hid hs2;go_wp2_with fail
           (refine rnd ?_;exact ⟨m+1,uA,un,uc,ps,by go_num,by omega,HGS,HG9,by (rw [HS2.out,List.append_nil];exact HO),hbutm⟩)
         · have hne:(((m:Int)+1) != D.id)=true:=by simp [hid]
           refine mn (cQ (wth D.wa k).ak ((m:Int)+1)) fun y2 hy2=>?_;have hI:=ID (wth D.wa k).ak ((m:Int)+1) y2 hy2;have HID:=ħ hid;have HY2:=ħ hy2;clear hid hy2;cases y2
           · have hs2:dF D.id (wth D.wa k).di (hth D.he lo).b (wth D.wa k).ak (m+1)=dF D.id (wth D.wa k).di (hth D.he lo).b (wth D.wa k).ak m ++ [uI D.id (wth D.wa k).di (hth D.he lo).b ((m:Int)+1)]:=by rw [dF,if_pos ⟨HID.out,HY2.out⟩]
             have HS2:=ħ hs2
             have hlen:(dD D k ++ dF D.id (wth D.wa k).di (hth D.he lo).b (wth D.wa k).ak m).length≤800000000:=by
              have h1:=wG D k hn16;have h2:=mI D.id (wth D.wa k).di (hth D.he lo).b (wth D.wa k).ak m;rw [List.length_append];omega
             clear hs2;obtain ⟨S,hSd⟩:∃S:World→Prop,S=fun Q=>But W.heap.size gs wm Q∧Q.cell? ⟨gs,7,none⟩=some (.slice (some ⟨b2,o2,none⟩) en ec)∧Q.cell? ⟨g9,0,none⟩=some (.int .i64 (wth D.wa k).di):=⟨_,rfl⟩;have hS7:∀Q,S Q→Q.cell? ⟨gs,7,none⟩=some (.slice (some ⟨b2,o2,none⟩) en ec):=fun Q h=>by rw [hSd] at h;exact h.2.1
             have hS9:∀Q,S Q→Q.cell? ⟨g9,0,none⟩=some (.int .i64 (wth D.wa k).di):=fun Q h=>by rw [hSd] at h;exact h.2.2
             have hS8:∀Q,S Q→Q.rangeAt b2 (o2+lo*4+1) [.int .i64 (hth D.he lo).b.au,.int .i64 (hth D.he lo).b.n,.slice bA bn bc]:=fun Q h=>by
              rw [hSd] at h;have hq:=hbX Q h.1;intro j u hu;have hj:j<3:=(List.getElem?_eq_some_iff.1 hu).1;have hcell:∀o v,w1.cell? ⟨b2,o,none⟩=some v→Q.cell? ⟨b2,o,none⟩=some v:=fun o v hv=>(hq.cell (p:=⟨b2,o,none⟩) hb2).trans hv
              match j,hj,hu with
              | 0,_,hu=>injection hu with hu;subst hu;exact hcell _ _ HF.out.1
              | 1,_,hu=>injection hu with hu;subst hu;exact hcell _ _ HF.out.2.1
              | 2,_,hu=>injection hu with hu;subst hu;exact hcell _ _ HF.out.2.2
             have hSG:∀Q A n c,But W.heap.size gs wm Q→Blk Q gs 70 [D.id,D.nodes,D.next,.slice oA on oc,a2,c2,.slice (some ⟨b,off,none⟩) tn tc,.slice (some ⟨b2,o2,none⟩) en ec,.slice rA rn rc,.slice A n c]→Blk Q g9 56 [.int .i64 (wth D.wa k).di,.slice nA nn nc]→S Q:=fun Q A n c hQ hG h9=>by rw [hSd];exact ⟨hQ,hG.box.2 7 _ rfl,h9.box.2 0 _ rfl⟩
             have hS:∀Q,Below wm wm Q→S Q:=fun Q hQ=>hSG Q _ _ _ (But.of_below (hQ.mono hszm)) (HGS.out.up hQ) (HG9.out.up hQ);clear hSd;go_upto_region 16 with (go_at_call 70;refine (eT nA nn nc (wth D.wa k).ak ((m:Int)+1) _ (HNT.out.up (hbX _ (But.refl _ _ _)))).mono ?_;rintro e w' ⟨rfl,rfl⟩)
             clear w_0 w_1 x_0 x_1 lwm l9m;refine hd hS fun hHeld=>?_;have hbd:=bdr wm;have hZ:=hHeld;generalize wm.drew=Z at *;refine tk 0 92 ?_;refine tk 1 93 ?_;refine tk 2 94 ?_;refine tq 3 95 hS9 ?_;refine tk 4 96 ?_;refine tk 5 97 ?_;refine tk 6 98 ?_;refine tk 7 99 ?_;refine tq 8 100 hS7 ?_;refine tk 9 101 ?_;refine tk 10 102 ?_;refine tk 11 103 ?_;refine ld 12 104 hS8 underlying43 ?_;refine ry 13 fun K hK=>?_;go_simp;(go_at_call 86;refine (eY (hth D.he lo).b bA bn bc _ (HTX.out.up (hbX _ (But.of_below (hbd.mono hszm)))) hbn).mono ?_;rintro e w7 ⟨v7,rfl,ho7,hb7⟩;obtain ⟨A7,c7,rfl,-⟩:=ho7.txs y69;rw [HBN.out] at ho7 ⊢)
             have hbd7:=aA hbd hb7;have hszm7:=Nat.le_trans hszm hbd7.size;have hM7:dS w7 W.heap.size (⟨⟨A7,bn,c7⟩,⟨⟨none,0,0⟩,⟨none,0,0⟩⟩,⟨⟨⟨none,0,0⟩,⟨none,0,0⟩⟩,⟨none,0,0⟩⟩,⟨none,0,0⟩⟩:bQ) (⟨1,0,(m:Int)+1,(wth D.wa k).di,(hth D.he lo).b,⟨0,0,[],[]⟩,⟨⟨0,0,[],[]⟩,0,[]⟩,[]⟩:aY):=⟨ho7.mono (Nat.le_trans hszm hbd.size),aE.nil _ _,aE.nil _ _,aE.nil _ _,aE.nil _ _,aE.nil _ _,aE.nil _ _⟩;have HM7:=ħ hM7;clear hM7 ho7;refine hkq hK (hS _ hbd7) fun hHeld=>?_;clear hK K;refine tk 14 106 ?_;refine ry 15 fun K hK=>?_;go_simp;(go_at_call 85;refine (kB gs W.heap.size D.id (.int .i64 D.nodes) (.int .i64 D.next) (.slice oA on oc) (.int .i64 a2) (.int .i64 c2) (.slice (some ⟨b,off,none⟩) tn tc) (.slice (some ⟨b2,o2,none⟩) en ec) (.slice rA rn rc) uA un uc ps (dD D k ++ dF D.id (wth D.wa k).di (hth D.he lo).b (wth D.wa k).ak m) (⟨⟨A7,bn,c7⟩,⟨⟨none,0,0⟩,⟨none,0,0⟩⟩,⟨⟨⟨none,0,0⟩,⟨none,0,0⟩⟩,⟨none,0,0⟩⟩,⟨none,0,0⟩⟩:bQ) (⟨1,0,(m:Int)+1,(wth D.wa k).di,(hth D.he lo).b,⟨0,0,[],[]⟩,⟨⟨0,0,[],[]⟩,0,[]⟩,[]⟩:aY) _ (HGS.out.up hbd7) hgsW hszm7 (HO.out.up hbd7) hlen HM7.out).mono ?_;rintro e w8 ⟨X,A8,n8,c8,rfl,rfl,hbX8,hkX,hoX⟩)
             have hkw:=(eU.of_below hbd7).trans hkX;have hGX:=(hkw _ _ _ y5 HGS.out).set_ 9 (.slice A8 n8 c8);have h9X:=(hkw _ _ _ y5 HG9.out).far (p:=⟨gs,9,none⟩) (by show g9≠gs;omega) (.slice A8 n8 c8);have hbt8:=((But.of_below (g:=gs) (hbd7.mono hszm)).trans (But.of_below hbX8)).setg (o:=9) (u:=.slice A8 n8 c8);refine hkq hK (hSG _ _ _ _ hbt8 hGX h9X) fun hHeld=>?_;clear hK K;refine wz ?_;have hoX2:aP cT (X.setCell ⟨gs,9,none⟩ (.slice A8 n8 c8)) W.heap.size (.slice A8 n8 c8) (ps ++ [(⟨⟨A7,bn,c7⟩,⟨⟨none,0,0⟩,⟨none,0,0⟩⟩,⟨⟨⟨none,0,0⟩,⟨none,0,0⟩⟩,⟨none,0,0⟩⟩,⟨none,0,0⟩⟩:bQ)]) (dD D k ++ dF D.id (wth D.wa k).di (hth D.he lo).b (wth D.wa k).ak (m+1)):=by (rw [HS2.out,← List.append_assoc];exact hoX.low hgsW)
             have HOX:=ħ hoX2;have HGX:=ħ hGX;have H9X:=ħ h9X;have hbutX:=hbutm.trans hbt8;clear hoX hoX2 hGX h9X hbt8 hkw hkX hbX8 hS hS7 hS8 hS9 hSG hHeld hZ hbd7 hbd hb7 HM7 hszm7;go_wp2_with fail
             (refine rnd ?_;exact ⟨m+1,A8,n8,c8,_,by go_num,by omega,HGX,H9X,HOX,hbutX⟩)
           · have hs2:dF D.id (wth D.wa k).di (hth D.he lo).b (wth D.wa k).ak (m+1)=dF D.id (wth D.wa k).di (hth D.he lo).b (wth D.wa k).ak m ++ []:=by rw [dF,if_neg (fun h=>by rw [HY2.out] at h;cases h.2)]
             have HS2:=ħ hs2;clear hs2;go_wp2_with (go_at_call 70;refine (eT nA nn nc (wth D.wa k).ak ((m:Int)+1) _ (HNT.out.up (hbX _ (But.refl _ _ _)))).mono ?_;rintro e w' ⟨rfl,rfl⟩)
             (refine rnd ?_;exact ⟨m+1,uA,un,uc,ps,by go_num,by omega,HGS,HG9,by (rw [HS2.out,List.append_nil];exact HO),hbutm⟩)
       · have hle:decide ((m:Int)+1≤D.nodes)=false:=by simp only [decide_eq_false_iff_not];omega
         have hmt:D.nodes.toNat=m:=by omega
         have HMT:=ħ hmt;clear hmt;go_wp2_with fail
         (refine rnd ?_;exact ⟨k+1,uA,un,uc,ps,by omega,by go_num,HGS,by (rw [HS.out,HMT.out];exact HO),hbutm⟩)
  · have ekn:tn=k:=by omega
    subst ekn;have hd1:decide ((tn:Int)<(tn:Int))=false:=by simp
    go_wp2_with fail
    show K0 _ _;apply HK0.out;dsimp only [uG,bF,cL,dJ,Tryz.f54,Option.getD];clear s_0 s_1 s_2 s_3 s_4 s_5 s_6 s_7 s_8 s_9;go_wp2_with fail
    go_ret
    exact ⟨gs,⟨⟨oA,on,oc⟩,⟨tA,tn,tc⟩,⟨eA,en,ec⟩,⟨rA,rn,rc⟩⟩,uA,un,uc,ps,rfl,HGS.out,⟨(HOW.out.up hbw0).op,(HOW.out.up hbw0).wa,(HOW.out.up hbw0).he,(HOW.out.up hbw0).re⟩,by (rw [HTN.out];exact HO.out.mono (Nat.le_trans hwsz (Nat.le_trans hgs0 (Nat.le_of_lt hgsW)))),Nat.le_trans hwsz hgs0,hb1.trans (hbw0.mono hwsz)⟩
theorem Ej (P:aF) (D:aD) (w:World) (h:bG w P D) (hm:dZ D=true) (hs:dY D) (hwa:D.wa.length≤1000000) :
 Calls prog 54 #[P.val D] w fun e w'=>∃gs P' A n c ps,e=.returned (.pointer (some ⟨gs,0,none⟩))∧Blk w' gs 70 (cS (aG D) P' A n c)∧aX w' w.heap.size P' (aG D)∧aP cT w' w.heap.size (.slice A n c) ps (gN D)∧w.heap.size≤gs∧Below w w w':=by
 have hM:=cX.1 hm;obtain ⟨ha0,ha1⟩:=eQ.1 hM.2.2.2.2.1;obtain ⟨hc0,hc1⟩:=eQ.1 hM.2.2.2.2.2.1;have H:=ħ h;have HM:=ħ hm;have HS:=ħ hs;have HWA:=ħ hwa;clear h hm hs hwa hM;refine mn D.age fun age hag=>?_;refine mn D.clock fun clock hck=>?_;refine mn (min (clock+1) 1099511627776) fun c2 hc2=>?_;refine mn ((if 0<D.op.length then min (age+1) 1099511627776 else age)) fun a2 ha2=>?_;have hT:aG D={D with clock:=c2,age:=a2}:=by unfold aG;rw [hag,hck,hc2,ha2]
 have hL1:c2 % 3=0→gN D=dD D D.wa.length:=fun h=>by unfold gN;rw [hck,hc2,if_pos h]
 have hL0:c2 % 3≠0→gN D=[]:=fun h=>by unfold gN;rw [hck,hc2,if_neg h]
 refine mn (gN D) fun tl htl=>?_;rw [htl] at hL1 hL0;rw [hT,htl];have HL1:=ħ hL1;have HL0:=ħ hL0;rw [hck] at hc0 hc1;rw [hag] at ha0 ha1;have hcb:0≤c2∧c2≤1099511627776:=by omega
 obtain ⟨hcb0,hcb1⟩:=hcb;have HAG:=ħ hag;have HCK:=ħ hck;have HA2:=ħ ha2;clear hT hag hck ha2 hL1 hL0 htl;have zc:∀(z:Bool),((c2 % 3) != 0)=z→((c2.tmod 3) != 0)=z:=fun z hz=>by rw [Int.tmod_eq_emod_of_nonneg hcb0];exact hz
 have HZC:=ħ zc;clear zc;show Calls prog 54 #[.agg (cW D P)] w _;go_enter func54,ntmps54
 go_wp2_with fail
 have hX1:Blk (w.alloc (.cells (cW D P) 27)) w.heap.size 27 (cW D P):=Blk.new w 27 (cW D P);have hbX:Below w w (w.alloc (.cells (cW D P) 27)):=aJ;have hzX:w.heap.size<(w.alloc (.cells (cW D P) 27)).heap.size:=by simp
 generalize (w.alloc (.cells (cW D P) 27))=X at *;refine (bK P D _ (H.out.up hbX) HS.out).mono ?_;rintro e w1 ⟨⟨⟨oA,on,oc⟩,⟨tA,tn,tc⟩,⟨eA,en,ec⟩,⟨rA,rn,rc⟩⟩,he1,hO1,hb1⟩;simp only [aF.val] at he1;subst he1;rw [HAG.out,HCK.out];have hon0:D.op.length=on:=(hO1.work HS.out).op.1;have ha3:=HA2.out;rw [hon0] at ha3;clear HA2 hon0;have HA2:=ħ ha3;clear ha3;have HB1:=ħ (hX1.up hb1);have HO1:=ħ (hO1.mono (Nat.le_of_lt hzX));have hbw1:=aA hbX hb1;have hgw1:w.heap.size<w1.heap.size:=Nat.lt_of_lt_of_le hzX hb1.size;clear hX1 hO1 hb1 hbX hzX HAG HCK;by_cases hcl:clock=1099511627776
 · subst hcl;obtain rfl:c2=1099511627776:=by omega
   obtain rfl:=HL0.out y5;clear hc2 HZC HL1 HL0;rcases Nat.eq_zero_or_pos on with hon|hon
   · subst hon;obtain rfl:a2=age:=by have:=HA2.out;rw [if_neg y2] at this;exact this.symm
     clear HA2
     skip
     go_wp2_with fail
     go_ret
     exact ⟨w1,⟨⟨oA,0,oc⟩,⟨tA,tn,tc⟩,⟨eA,en,ec⟩,⟨rA,rn,rc⟩⟩,none,0,0,[],rfl,Blk.new w1 70 [D.id,D.nodes,D.next,.slice oA 0 oc,a2,.int .i64 1099511627776,.slice tA tn tc,.slice eA en ec,.slice rA rn rc,n0],⟨(HO1.out.up (aB (Below.refl _ _))).op,(HO1.out.up (aB (Below.refl _ _))).wa,(HO1.out.up (aB (Below.refl _ _))).he,(HO1.out.up (aB (Below.refl _ _))).re⟩,aP.nil _ _,hbw1.size,aB hbw1⟩
   · have hmin2:min (age+1) 1099511627776=a2:=by have:=HA2.out;rw [if_pos hon] at this;exact this
     have hond:decide (0<on)=true:=by simpa using hon
     clear HA2;by_cases hag:age=1099511627776
     · subst hag;obtain rfl:a2=1099511627776:=by omega
       clear hmin2
       skip
       go_wp2_with fail
       go_ret
       exact ⟨w1,⟨⟨oA,on,oc⟩,⟨tA,tn,tc⟩,⟨eA,en,ec⟩,⟨rA,rn,rc⟩⟩,none,0,0,[],rfl,Blk.new w1 70 [D.id,D.nodes,D.next,.slice oA on oc,.int .i64 1099511627776,.int .i64 1099511627776,.slice tA tn tc,.slice eA en ec,.slice rA rn rc,n0],⟨(HO1.out.up (aB (Below.refl _ _))).op,(HO1.out.up (aB (Below.refl _ _))).wa,(HO1.out.up (aB (Below.refl _ _))).he,(HO1.out.up (aB (Below.refl _ _))).re⟩,aP.nil _ _,hbw1.size,aB hbw1⟩
     · have hag1:age+1≤1099511627776:=by omega
       obtain rfl:a2=age+1:=by omega
       skip
       go_wp2_with fail
       go_ret
       exact ⟨w1,⟨⟨oA,on,oc⟩,⟨tA,tn,tc⟩,⟨eA,en,ec⟩,⟨rA,rn,rc⟩⟩,none,0,0,[],rfl,Blk.new w1 70 [D.id,D.nodes,D.next,.slice oA on oc,.int .i64 (age+1),.int .i64 1099511627776,.slice tA tn tc,.slice eA en ec,.slice rA rn rc,n0],⟨(HO1.out.up (aB (Below.refl _ _))).op,(HO1.out.up (aB (Below.refl _ _))).wa,(HO1.out.up (aB (Below.refl _ _))).he,(HO1.out.up (aB (Below.refl _ _))).re⟩,aP.nil _ _,hbw1.size,aB hbw1⟩
 · have hcl1:clock+1≤1099511627776:=by omega
   obtain rfl:c2=clock+1:=by omega
   rcases hz:((clock+1) % 3 != 0) with _|_
   · have hz2:=HZC.out _ hz;obtain rfl:=HL1.out y92;clear HZC HL1 HL0;rcases Nat.eq_zero_or_pos on with hon|hon
     · subst hon;obtain rfl:a2=age:=by have:=HA2.out;rw [if_neg y2] at this;exact this.symm
       clear HA2
       skip
       go_upto_region 7 with fail
       rename_i K0 hK0 K1 hK1;exact yN P D w w1 _ w.heap.size w1.heap.size a2 (clock+1) oA tA eA rA 0 oc tn tc en ec rn rc hK0 hK1 HO1.out HM.out HS.out HWA.out hbw1 (aB (Below.refl _ _)) (Nat.le_refl _) hgw1 (Nat.le_refl _) (HB1.out.up (aB (Below.refl _ _))) (Blk.new w1 70 [D.id,D.nodes,D.next,.slice oA 0 oc,a2,.int .i64 (clock+1),.slice tA tn tc,.slice eA en ec,.slice rA rn rc,n0])
     · have hmin2:min (age+1) 1099511627776=a2:=by have:=HA2.out;rw [if_pos hon] at this;exact this
       have hond:decide (0<on)=true:=by simpa using hon
       clear HA2;by_cases hag:age=1099511627776
       · subst hag;obtain rfl:a2=1099511627776:=by omega
         clear hmin2
         skip
         go_upto_region 7 with fail
         rename_i K0 hK0 K1 hK1;exact yN P D w w1 _ w.heap.size w1.heap.size 1099511627776 (clock+1) oA tA eA rA on oc tn tc en ec rn rc hK0 hK1 HO1.out HM.out HS.out HWA.out hbw1 (aB (Below.refl _ _)) (Nat.le_refl _) hgw1 (Nat.le_refl _) (HB1.out.up (aB (Below.refl _ _))) (Blk.new w1 70 [D.id,D.nodes,D.next,.slice oA on oc,.int .i64 1099511627776,.int .i64 (clock+1),.slice tA tn tc,.slice eA en ec,.slice rA rn rc,n0])
       · have hag1:age+1≤1099511627776:=by omega
         obtain rfl:a2=age+1:=by omega
         skip
         go_upto_region 7 with fail
         rename_i K0 hK0 K1 hK1;exact yN P D w w1 _ w.heap.size w1.heap.size (age+1) (clock+1) oA tA eA rA on oc tn tc en ec rn rc hK0 hK1 HO1.out HM.out HS.out HWA.out hbw1 (aB (Below.refl _ _)) (Nat.le_refl _) hgw1 (Nat.le_refl _) (HB1.out.up (aB (Below.refl _ _))) (Blk.new w1 70 [D.id,D.nodes,D.next,.slice oA on oc,.int .i64 (age+1),.int .i64 (clock+1),.slice tA tn tc,.slice eA en ec,.slice rA rn rc,n0])
   · have hz2:=HZC.out _ hz;obtain rfl:=HL0.out y92;clear HZC HL1 HL0;rcases Nat.eq_zero_or_pos on with hon|hon
     · subst hon;obtain rfl:a2=age:=by have:=HA2.out;rw [if_neg y2] at this;exact this.symm
       clear HA2
       skip
       go_wp2_with fail
       go_ret
       exact ⟨w1,⟨⟨oA,0,oc⟩,⟨tA,tn,tc⟩,⟨eA,en,ec⟩,⟨rA,rn,rc⟩⟩,none,0,0,[],rfl,Blk.new w1 70 [D.id,D.nodes,D.next,.slice oA 0 oc,a2,.int .i64 (clock+1),.slice tA tn tc,.slice eA en ec,.slice rA rn rc,n0],⟨(HO1.out.up (aB (Below.refl _ _))).op,(HO1.out.up (aB (Below.refl _ _))).wa,(HO1.out.up (aB (Below.refl _ _))).he,(HO1.out.up (aB (Below.refl _ _))).re⟩,aP.nil _ _,hbw1.size,aB hbw1⟩
     · have hmin2:min (age+1) 1099511627776=a2:=by have:=HA2.out;rw [if_pos hon] at this;exact this
       have hond:decide (0<on)=true:=by simpa using hon
       clear HA2;by_cases hag:age=1099511627776
       · subst hag;obtain rfl:a2=1099511627776:=by omega
         clear hmin2
         skip
         go_wp2_with fail
         go_ret
         exact ⟨w1,⟨⟨oA,on,oc⟩,⟨tA,tn,tc⟩,⟨eA,en,ec⟩,⟨rA,rn,rc⟩⟩,none,0,0,[],rfl,Blk.new w1 70 [D.id,D.nodes,D.next,.slice oA on oc,.int .i64 1099511627776,.int .i64 (clock+1),.slice tA tn tc,.slice eA en ec,.slice rA rn rc,n0],⟨(HO1.out.up (aB (Below.refl _ _))).op,(HO1.out.up (aB (Below.refl _ _))).wa,(HO1.out.up (aB (Below.refl _ _))).he,(HO1.out.up (aB (Below.refl _ _))).re⟩,aP.nil _ _,hbw1.size,aB hbw1⟩
       · have hag1:age+1≤1099511627776:=by omega
         obtain rfl:a2=age+1:=by omega
         skip
         go_wp2_with fail
         go_ret
         exact ⟨w1,⟨⟨oA,on,oc⟩,⟨tA,tn,tc⟩,⟨eA,en,ec⟩,⟨rA,rn,rc⟩⟩,none,0,0,[],rfl,Blk.new w1 70 [D.id,D.nodes,D.next,.slice oA on oc,.int .i64 (age+1),.int .i64 (clock+1),.slice tA tn tc,.slice eA en ec,.slice rA rn rc,n0],⟨(HO1.out.up (aB (Below.refl _ _))).op,(HO1.out.up (aB (Below.refl _ _))).wa,(HO1.out.up (aB (Below.refl _ _))).he,(HO1.out.up (aB (Below.refl _ _))).re⟩,aP.nil _ _,hbw1.size,aB hbw1⟩
theorem Bx (P:aF) (D:aD) (w:World) (h:bG w P D) (hz:dZ D=false) :
 Calls prog 55 #[P.val D] w fun e w'=>e=.returned (.tuple #[jF,n0,.int .i64 1])∧Below w w w':=by
 have H:=ħ h;have HZ:=ħ hz;clear h hz;show Calls prog 55 #[.agg (cW D P)] w _;go_enter func55,ntmps55
 go_wp2_with fail
 have hX1:Blk ((w.alloc (.cells (cW D P) 27)).alloc (.cells cZ 27)) w.heap.size 27 (cW D P):=(Blk.new w 27 (cW D P)).up (aJ)
 have hX3:Blk ((w.alloc (.cells (cW D P) 27)).alloc (.cells cZ 27)) (w.heap.size+1) 27 cZ:=by
  have:=Blk.new (w.alloc (.cells (cW D P) 27)) 27 cZ;simpa using this
 have hbX:Below w w ((w.alloc (.cells (cW D P) 27)).alloc (.cells cZ 27)):=aJ;generalize ((w.alloc (.cells (cW D P) 27)).alloc (.cells cZ 27))=X at *;refine (dK P D false _ (H.out.up hbX) HZ.out).mono ?_;rintro e w1 ⟨rfl,hb1⟩;have hY3:=hX3.up hb1;have hbY:=aA hbX hb1;have l3:=hY3.lt;have f3:=hY3.frozen;obtain ⟨c_0,c_1,c_2,c_3,c_4,c_5,c_6,c_7,c_8⟩:=bx9 hY3.box;clear hX1 hX3 hbX hb1;go_wp2_with fail
 exact bodyPost_ret (v:=.tuple #[.agg cZ,n0,.int .i64 1]) (by simp [results,results55,go_sem, *]) rfl ⟨rfl,aI⟩
end Go.Proofs.YtgfakefcmbpboaaGreat
