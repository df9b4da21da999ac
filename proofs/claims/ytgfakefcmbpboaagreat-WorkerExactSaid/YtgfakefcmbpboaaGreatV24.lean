/- Part 24 of what WorkerExact leans on. No conditions. -/
import Derived.Test.YtgfakefcmbpboaaGreatV23
namespace Go.Proofs.YtgfakefcmbpboaaGreat
set_option linter.all false
set_option maxRecDepth 100000
set_option maxHeartbeats 64000000
open _root_.Go.Proofs.Tryz Go.RowKit
open Tok
noncomputable def dD (D:aD):Nat→List aY
 | 0=>[]
 | k+1=>dD D k ++ if dL D.he (wth D.wa k).di=true then dF D.id (wth D.wa k).di (hth D.he (bB D.he (wth D.wa k).di)).b (wth D.wa k).ak D.nodes.toNat else []
noncomputable def gN (D:aD):List aY:=if min (D.clock+1) 1099511627776 % 3=0 then dD D D.wa.length else []
theorem wG (D:aD) (k:Nat) (hn:D.nodes≤16):(dD D k).length≤k*16:=by
 induction k with
 | zero=>simp [dD]
 | succ k ih=>
  unfold dD;rw [List.length_append];split
  · have:=mI D.id (wth D.wa k).di (hth D.he (bB D.he (wth D.wa k).di)).b (wth D.wa k).ak D.nodes.toNat;omega
  · simp;omega
theorem nC (D:aD) (k:Nat):dD D (k+1)=dD D k ++ if dL D.he (wth D.wa k).di=true then dF D.id (wth D.wa k).di (hth D.he (bB D.he (wth D.wa k).di)).b (wth D.wa k).ak D.nodes.toNat else []:=rfl
theorem But.blkk {B g k:Nat} {w w':World} {t:TypeId} {cs:List Value} (h:But B g w w') (hb:Blk w k t cs) (hk:k<B) (hne:k≠g):Blk w' k t cs:=hb.of_heap (h.block k hk hne)
theorem aP.lows {α β:Type} [Inhabited α] [Inhabited β] {T:rQ α β} {w:World} {B g:Nat} {v:Value} {ps:List β} {l:List α} (h:aP T w B v ps l) (hp:g<B) (a0 a1 a2 a3 a4 a5 a6 a7 a8:Value):aP T (kA w g a0 a1 a2 a3 a4 a5 a6 a7 a8) B v ps l:=((((((((h.low hp).low hp).low hp).low hp).low hp).low hp).low hp).low hp).low hp
noncomputable def tV:Code:=bF 5 (Tryz.f102.body.getD .skip)
theorem yC {K0 K1:Act→World→Prop} (D:aD) (w W:World) (gr gs:Nat) (a2 c2:Int) (oA tA eA rA:Option Addr) (on oc tn tc en ec rn rc:Nat) {u0 u1 u3 u5 u6 u7 u8 u9 nN lV lW kK kL kM kN lX kO kP kQ kR kS kT kU kV kX kY lB lC lD lE lF lH lI lJ lK mS oM oN oO oP oQ oR oS oT oU oV oW oX oY oZ pB pC pD pE pF pG pH pI pJ pK pL pM mT pN pO pP pQ pR pS qM qN qO qP qQ qR qT qU qV qW qX qY qZ rB rC rD rE rF rG rH rI rJ rK rL rM rN rO:Value}
 (hK0:∀a' w',Code.wp prog (cL tV) (bodyPost prog Tryz.f102 (fun e w'=>∃A n c ps,e=.returned (.tuple #[.agg #[D.id,D.nodes,D.next,.slice oA on oc,a2,c2,.slice tA tn tc,.slice eA en ec,.slice rA rn rc],.slice A n c])∧aP cT w' w.heap.size (.slice A n c) ps (dD D D.wa.length)∧Below w w w')) a' w'→K0 a' w')
 (hK1:∀a' w',Code.wp prog (cL (dJ tV)) (Exit.then K0 (bodyPost prog Tryz.f102 (fun e w'=>∃A n c ps,e=.returned (.tuple #[.agg #[D.id,D.nodes,D.next,.slice oA on oc,a2,c2,.slice tA tn tc,.slice eA en ec,.slice rA rn rc],.slice A n c])∧aP cT w' w.heap.size (.slice A n c) ps (dD D D.wa.length)∧Below w w w'))) a' w'→K1 a' w')
 (h:bG w ⟨⟨oA,on,oc⟩,⟨tA,tn,tc⟩,⟨eA,en,ec⟩,⟨rA,rn,rc⟩⟩ D) (hm:dZ D=true) (hs:dY D) (htn:D.wa.length≤1000000) (hbW:Below w w W) (hgr0:w.heap.size≤gr) (hgr:gr<gs)
 (hr:Blk W gr 27 cZ) (hg:Blk W gs 142 [D.id,D.nodes,D.next,.slice oA on oc,a2,c2,.slice tA tn tc,.slice eA en ec,.slice rA rn rc,n0]) :
 Code.wp prog (dJ (dJ tV)) (Exit.then K1 (Exit.then K0 (bodyPost prog Tryz.f102 (fun e w'=>∃A n c ps,e=.returned (.tuple #[.agg #[D.id,D.nodes,D.next,.slice oA on oc,a2,c2,.slice tA tn tc,.slice eA en ec,.slice rA rn rc],.slice A n c])∧aP cT w' w.heap.size (.slice A n c) ps (dD D D.wa.length)∧Below w w w')))) {tmps:=#[u0,u1,.pointer (some ⟨gr,0,none⟩),u3,.pointer (some ⟨gs,0,none⟩),u5,u6,u7,u8,u9,nN,lV,lW,kK,kL,kM,kN,lX,kO,kP,kQ,kR,kS,kT,kU,kV,kX,kY,lB,lC,lD,lE,lF,lH,lI,lJ,lK,mS,oM,oN,oO,oP,oQ,oR,oS,oT,oU,oV,oW,oX,oY,oZ,pB,pC,pD,pE,pF,pG,pH,pI,pJ,pK,pL,pM,mT,pN,pO,pP,pQ,pR,pS,qM,qN,qO,qP,qQ,qR,qT,qU,qV,qW,qX,qY,qZ,rB,rC,rD,rE,rF,rG,rH,rI,rJ,rK,rL,rM,rN,rO],defers:=[]} W:=by
 have H:=ħ h;have hM:=cX.1 hm;have hn1:1≤D.nodes:=(gR hM.1).1;have hn16:D.nodes≤16:=(gR hM.1).2;have HSO:Hid (dQ D.he):=ħ (fD.1 hM.2.2.2.2.2.2.2.2.2.2.1).sorted;have hen9:en≤1000000000:=by have e1:=h.he.1;have e2:=hs.he.1;dsimp only at e1;omega
 have HBIG:=ħ hs.he;have HTN:Hid (D.wa.length=tn):=ħ h.wa.1;have htn6:tn≤1000000:=by have e1:=h.wa.1;dsimp only at e1;omega
 have HK0:=ħ hK0;have HK1:=ħ hK1;have HR:=ħ hr;have HG0:=ħ hg;have hgs0:w.heap.size≤gs:=by omega
 have hgsW:=hg.lt;have hgrW:=hr.lt;have b6:=hg.box.2 6 _ rfl;clear h hm hM hs htn hK0 hK1 hr hg;dsimp only [tV,bF,cL,dJ,Tryz.f102,Option.getD];go_wp2_with fail
 show K1 _ _;apply HK1.out;dsimp only [tV,bF,cL,dJ,Tryz.f102,Option.getD];clear b6;go_wp2_with fail
 go_loopw [58] (fun iv wr=>∃(k:Nat) (uA:Option Addr) (un uc:Nat) (ps:List bQ),k≤tn∧iv=.int .i64 k∧Hid (Blk wr gs 142 [D.id,D.nodes,D.next,.slice oA on oc,a2,c2,.slice tA tn tc,.slice eA en ec,.slice rA rn rc,.slice uA un uc])∧Hid (aP cT wr W.heap.size (.slice uA un uc) ps (dD D k))∧But W.heap.size gs W wr) (fun iv _=>tn-(intOf iv).toNat)
 case atStart=>exact ⟨0,none,0,0,[],Nat.zero_le _,rfl,HG0,ħ (aP.nil _ _),But.refl _ _ _⟩
 case round=>
  obtain ⟨k,uA,un,uc,ps,hk,rfl,HGS,HO,hbut⟩:=hrel
  (obtain ⟨wk,hwk⟩:∃x,x=wr:=⟨_,rfl⟩);subst hwk
  have hszk:=hbut.size;have hbw0:Below w w wk:=hbW.trans ((hbut.below (Nat.le_of_lt hgsW)).mono hgs0);by_cases hlt:k<tn
  · obtain ⟨b,off,e1,hb,hc⟩:=H.out.wa.2.2 (by show 0<tn;omega);dsimp only at e1;subst e1;obtain ⟨nA,nn,nc,⟨w0,w1⟩,hNT⟩:=hc k hlt;have HNT:=ħ hNT;have q0:=(hbw0.cell (p:=⟨b,off+k*2,none⟩) hb).trans w0;have q1:=(hbw0.cell (p:=⟨b,off+k*2+1,none⟩) hb).trans w1;have hbl:b<wk.heap.size:=Nat.lt_of_lt_of_le hb hbw0.size;refine mn (bB D.he (wth D.wa k).di) fun lo hlo=>?_;refine mn (dL D.he (wth D.wa k).di) fun y hy=>?_;have HLO:=ħ hlo;have HY:=ħ hy;have hlk:(k:Int)<(tn:Int):=by omega
    clear hc hNT hlo hy;go_upto_region 10 with fail
    have hb9:Below wk wk (wk.alloc (.cells #[.int .i64 (wth D.wa k).di,.slice nA nn nc] 56)):=aJ;have HG9:Hid (Blk (wk.alloc (.cells #[.int .i64 (wth D.wa k).di,.slice nA nn nc] 56)) wk.heap.size 56 [.int .i64 (wth D.wa k).di,.slice nA nn nc]):=ħ (Blk.new wk 56 [.int .i64 (wth D.wa k).di,.slice nA nn nc]);refine nm wk.heap.size fun g9 hg9=>?_;refine nm (wk.alloc (.cells #[.int .i64 (wth D.wa k).di,.slice nA nn nc] 56)) fun w9 hw9=>?_;rw [←hw9,← hg9] at HG9 ⊢;rw [←hw9] at hb9;clear hw9 hg9 w0 w1 q0 q1 hbl;have hbw2:∀X,Below w9 w9 X→Below w w X:=fun X hX=>hbw0.trans ((aA hb9 hX).mono hbw0.size);obtain ⟨S,hSd⟩:∃S:World→Prop,S=fun Q=>Q.cell? ⟨gs,7,none⟩=some (.slice eA en ec)∧Q.cell? ⟨g9,0,none⟩=some (.int .i64 (wth D.wa k).di):=⟨_,rfl⟩;have hS7:∀Q,S Q→Q.cell? ⟨gs,7,none⟩=some (.slice eA en ec):=fun Q h=>by rw [hSd] at h;exact h.1
    have hS6:∀Q,S Q→Q.cell? ⟨g9,0,none⟩=some (.int .i64 (wth D.wa k).di):=fun Q h=>by rw [hSd] at h;exact h.2
    have hS:∀Q,Below w9 w9 Q→S Q:=fun Q hQ=>by rw [hSd];exact ⟨(HGS.out.up (aA hb9 hQ)).box.2 7 _ rfl,(HG9.out.up hQ).box.2 0 _ rfl⟩
    clear hSd;refine hd hS fun hHeld=>?_;have hbd:=bdr w9;have hZ:=hHeld;generalize w9.drew=Z0 at *;refine tk 0 63 ?_;refine tk 1 64 ?_;refine tk 2 65 ?_;refine tk 3 66 ?_;refine tq 4 67 hS7 ?_;refine tk 5 68 ?_;refine tq 6 69 hS6 ?_;refine ry 7 fun K hK=>?_;go_simp;(go_at_call 118;refine (gZ eA en ec D.he (wth D.wa k).di lo y _ (H.out.he.up (hbw2 _ hbd)) HSO.out hen9 HLO.out HY.out).mono ?_;rintro e w5 ⟨rfl,hb5⟩)
    refine hkq hK (hS _ (aA hbd hb5)) fun hHeld=>?_;clear hK K;refine tk 8 62 ?_;refine tk 9 71 ?_;refine tk 10 72 ?_;refine tk 11 7 ?_;refine tk 12 8 ?_;refine wz ?_;have hbz:=aA hbd hb5;clear hS hS6 hS7 hHeld hZ hb5 hbd;cases y
    · have hs:dD D (k+1)=dD D k:=by rw [nC,if_neg y73,List.append_nil]
      have HS:=ħ hs;clear hs;go_wp2_with fail
      (refine rnd ?_;exact ⟨k+1,uA,un,uc,ps,by omega,by go_num,ħ (HGS.out.up (aA hb9 hbz)),by (rw [HS.out];exact ħ (HO.out.up (aA hb9 hbz))),hbut.trans (But.of_below ((aA hb9 hbz).mono hszk))⟩)
    · obtain ⟨hlo1,hlo2⟩:=oB HLO.out HY.out;have hlen1:lo<en:=by have e1:=H.out.he.1;dsimp only at e1;omega
      obtain ⟨b2,o2,e2,hb2,hc2⟩:=H.out.he.2.2 (by show 0<en;omega);dsimp only at e2;subst e2;obtain ⟨bA,bn,bc,⟨f0,f1,f2,f3⟩,hTX⟩:=hc2 lo hlen1;have hbn:bn≤800000000:=by rw [←hTX.1];exact HBIG.out.2 _ (cB hlo1)
      have hlen:=wG D k (hn16);have hlen:(dD D k).length≤700000000:=by omega
      have hs:dD D (k+1)=dD D k ++ dF D.id (wth D.wa k).di (hth D.he lo).b (wth D.wa k).ak D.nodes.toNat:=by rw [nC,if_pos HY.out,HLO.out]
      have HS:=ħ hs;have HTX:=ħ hTX;have HG9:Hid (Blk w5 g9 56 [.int .i64 (wth D.wa k).di,.slice nA nn nc]):=ħ (HG9.out.up hbz);have HGS:=ħ (HGS.out.up (aA hb9 hbz));have HO:=ħ (HO.out.up (aA hb9 hbz));have hbut5:=hbut.trans (But.of_below ((aA hb9 hbz).mono hszk));have hszk5:=hbut5.size;have hbX:∀X,But W.heap.size gs w5 X→Below w w X:=fun X hX=>hbW.trans (((hbut5.trans hX).below (Nat.le_of_lt hgsW)).mono hgs0);have HCB:Hid (∀X,But W.heap.size gs w5 X→X.cell? ⟨gs,7,none⟩=some (.slice (some ⟨b2,o2,none⟩) en ec)→Blk X gs 142 [D.id,D.nodes,D.next,.slice oA on oc,a2,c2,.slice (some ⟨b,off,none⟩) tn tc,.slice (some ⟨b2,o2,none⟩) en ec,.slice rA rn rc,.slice uA un uc]→True):=ħ (fun _ _ _ _=>trivial);clear hs hTX hc2 HCB hbut hszk hbz hb9 hbw2;obtain ⟨S,hSd⟩:∃S:World→Prop,S=fun Q=>But W.heap.size gs w5 Q∧Q.cell? ⟨gs,7,none⟩=some (.slice (some ⟨b2,o2,none⟩) en ec):=⟨_,rfl⟩;have hS7:∀Q,S Q→Q.cell? ⟨gs,7,none⟩=some (.slice (some ⟨b2,o2,none⟩) en ec):=fun Q h=>by rw [hSd] at h;exact h.2
      have hS8:∀Q,S Q→Q.rangeAt b2 (o2+lo*4+1) [.int .i64 (hth D.he lo).b.au,.int .i64 (hth D.he lo).b.n,.slice bA bn bc]:=fun Q h=>by
       rw [hSd] at h;have hq:=hbX Q h.1;intro j u hu;have hj:j<3:=(List.getElem?_eq_some_iff.1 hu).1;have hcell:∀o v,w.cell? ⟨b2,o,none⟩=some v→Q.cell? ⟨b2,o,none⟩=some v:=fun o v hv=>(hq.cell (p:=⟨b2,o,none⟩) hb2).trans hv
       match j,hj,hu with
       | 0,_,hu=>injection hu with hu;subst hu;exact hcell _ _ f1
       | 1,_,hu=>injection hu with hu;subst hu;exact hcell _ _ f2
       | 2,_,hu=>injection hu with hu;subst hu;exact hcell _ _ f3
      have hSG:∀Q,But W.heap.size gs w5 Q→∀A n c,Blk Q gs 142 [D.id,D.nodes,D.next,.slice oA on oc,a2,c2,.slice (some ⟨b,off,none⟩) tn tc,.slice (some ⟨b2,o2,none⟩) en ec,.slice rA rn rc,.slice A n c]→S Q:=fun Q hQ A n c hG=>by rw [hSd];exact ⟨hQ,hG.box.2 7 _ rfl⟩
      have hS:∀Q,Below w5 w5 Q→S Q:=fun Q hQ=>hSG Q (But.of_below (hQ.mono hszk5)) _ _ _ (HGS.out.up hQ);clear hSd f0 f1 f2 f3;go_upto_region 12 with fail
      refine hd hS fun hHeld=>?_;have hbd:=bdr w5;have hZ:=hHeld;generalize w5.drew=Z at *;refine tk 0 74 ?_;refine tk 1 75 ?_;refine tk 3 77 ?_;refine tk 4 78 ?_;refine tk 5 79 ?_;refine tk 6 80 ?_;refine tq 7 81 hS7 ?_;refine tk 8 82 ?_;refine tk 9 83 ?_;refine tk 10 84 ?_;refine ld 11 85 hS8 underlying43 ?_;refine tk 12 86 ?_;refine ry2 2 13 (fun K hK=>?_) fun K hK=>?_
      · skip
        have q9:=(HG9.out.up hbd).box.2 0 _ rfl;have q8:=(HG9.out.up hbd).lt;go_simp;clear q9 q8;refine hkq hK (hS _ hbd) fun hHeld=>?_;clear hK K;refine ry 13 fun K hK=>?_;have q9:=(HG9.out.up hbd).box.2 1 _ rfl;have q8:=(HG9.out.up hbd).lt;go_simp;clear q9 q8;refine hkq hK (hS _ hbd) fun hHeld=>?_;clear hK K;refine ry 14 fun K hK=>?_;go_simp;(go_at_call 123;refine (Bo gs W.heap.size D.id D.nodes (wth D.wa k).di (.int .i64 D.next) (.slice oA on oc) (.int .i64 a2) (.int .i64 c2) (.slice (some ⟨b,off,none⟩) tn tc) (.slice (some ⟨b2,o2,none⟩) en ec) (.slice rA rn rc) (hth D.he lo).b bA nA uA bn bc nn nc un uc (wth D.wa k).ak ps (dD D k) _ (HGS.out.up hbd) hgsW (Nat.le_trans hszk5 hbd.size) (HO.out.up hbd) hlen hn1 hn16 hbn (fun X hX=>HTX.out.up (hbX _ (But.trans (But.of_below (hbd.mono hszk5)) hX))) (fun X hX=>HNT.out.up (hbX _ (But.trans (But.of_below (hbd.mono hszk5)) hX)))).mono ?_;rintro e w6 ⟨A6,n6,c6,ps6,rfl,hBt6,hG6,hO6⟩)
        refine hkq hK (hSG _ (But.trans (But.of_below (hbd.mono hszk5)) hBt6) _ _ _ hG6) fun hHeld=>?_;clear hK K;refine wz ?_;have hbut6:=hbut5.trans (But.trans (But.of_below (hbd.mono hszk5)) hBt6);have HG6:=ħ hG6;have HO6:=ħ hO6;clear hS hS7 hS8 hSG hHeld hZ hG6 hO6 hbd;go_wp2_with fail
        (refine rnd ?_;exact ⟨k+1,A6,n6,c6,ps6,by omega,by go_num,HG6,by (rw [HS.out];exact HO6),hbut6⟩)
      · skip
        have q9:=(HG9.out.up hbd).box.2 1 _ rfl;have q8:=(HG9.out.up hbd).lt;go_simp;clear q9 q8;refine hkq hK (hS _ hbd) fun hHeld=>?_;clear hK K;refine ry 2 fun K hK=>?_;have q9:=(HG9.out.up hbd).box.2 0 _ rfl;have q8:=(HG9.out.up hbd).lt;go_simp;clear q9 q8;refine hkq hK (hS _ hbd) fun hHeld=>?_;clear hK K;refine ry 14 fun K hK=>?_;go_simp;(go_at_call 123;refine (Bo gs W.heap.size D.id D.nodes (wth D.wa k).di (.int .i64 D.next) (.slice oA on oc) (.int .i64 a2) (.int .i64 c2) (.slice (some ⟨b,off,none⟩) tn tc) (.slice (some ⟨b2,o2,none⟩) en ec) (.slice rA rn rc) (hth D.he lo).b bA nA uA bn bc nn nc un uc (wth D.wa k).ak ps (dD D k) _ (HGS.out.up hbd) hgsW (Nat.le_trans hszk5 hbd.size) (HO.out.up hbd) hlen hn1 hn16 hbn (fun X hX=>HTX.out.up (hbX _ (But.trans (But.of_below (hbd.mono hszk5)) hX))) (fun X hX=>HNT.out.up (hbX _ (But.trans (But.of_below (hbd.mono hszk5)) hX)))).mono ?_;rintro e w6 ⟨A6,n6,c6,ps6,rfl,hBt6,hG6,hO6⟩)
        refine hkq hK (hSG _ (But.trans (But.of_below (hbd.mono hszk5)) hBt6) _ _ _ hG6) fun hHeld=>?_;clear hK K;refine wz ?_;have hbut6:=hbut5.trans (But.trans (But.of_below (hbd.mono hszk5)) hBt6);have HG6:=ħ hG6;have HO6:=ħ hO6;clear hS hS7 hS8 hSG hHeld hZ hG6 hO6 hbd;go_wp2_with fail
        (refine rnd ?_;exact ⟨k+1,A6,n6,c6,ps6,by omega,by go_num,HG6,by (rw [HS.out];exact HO6),hbut6⟩)
  · have ekn:tn=k:=by omega
    subst ekn;go_wp2_with fail
    show K0 _ _;apply HK0.out;dsimp only [tV,bF,cL,dJ,Tryz.f102,Option.getD];go_upto_region 14 with fail
    have hrk:Blk wk gr 27 cZ:=But.blkk hbut HR.out hgrW y2;obtain ⟨S,hSd⟩:∃S:World→Prop,S=fun Q=>Blk Q gs 142 [D.id,D.nodes,D.next,.slice oA on oc,a2,c2,.slice tA tn tc,.slice eA en ec,.slice rA rn rc,.slice uA un uc]:=⟨_,rfl⟩
    have hS1:∀Q,S Q→Q.rangeAt gs 0 [D.id,D.nodes,D.next,.slice oA on oc,a2,c2,.slice tA tn tc,.slice eA en ec,.slice rA rn rc]:=fun Q h=>by
     rw [hSd] at h;intro j u hu;rw [Nat.zero_add];exact Ak (l:=[D.id,D.nodes,D.next,.slice oA on oc,a2,c2,.slice tA tn tc,.slice eA en ec,.slice rA rn rc]) (m:=[.slice uA un uc]) h.box hu
    have hS2:∀Q,S Q→Q.cell? ⟨gs,9,none⟩=some (.slice uA un uc):=fun Q h=>by rw [hSd] at h;exact h.box.2 9 _ rfl
    have hSr:∀Q,S Q→∀(a0 a1 a2 a3 a4 a5 a6 a7 a8:Value),S (kA Q gr a0 a1 a2 a3 a4 a5 a6 a7 a8):=fun Q h a0 a1 a2 a3 a4 a5 a6 a7 a8=>by rw [hSd] at h ⊢;exact h.sets9 y2 a0 a1 a2 a3 a4 a5 a6 a7 a8
    have hS0:S wk.drew:=by rw [hSd];exact HGS.out.up (aM (Below.refl _ _))
    have hbd:=bdr wk;have HR14:=ħ (hrk.up hbd);have HO14:=ħ (HO.out.up hbd);have hb14:=hbw0.trans (hbd.mono hbw0.size);clear hSd hrk;refine wp_region_held_drew (S:=S) y8 hS0 (fun hHeld=>?_);have hZ:=hHeld;generalize wk.drew=Z at *;refine tk 0 90 ?_;refine tk 1 91 ?_;refine tk 2 92 ?_;refine ld 3 93 hS1 underlying27 ?_;refine tk 4 94 ?_;refine tk 5 95 ?_;refine tk 6 96 ?_;refine tq 7 97 hS2 ?_;refine ry 8 fun K hK=>?_;have hR:=HR14.out;have qf:=hR.frozen;have ql:=hR.lt;have h9:=hR.box;obtain ⟨q0,q1,q2,q3,q4,q5,q6,q7,q8⟩:=bx9 h9;clear h9 hR;go_simp;clear qf ql q0 q1 q2 q3 q4 q5 q6 q7 q8;refine hkq hK (hSr _ hZ (.int .i64 D.id) (.int .i64 D.nodes) (.int .i64 D.next) (.slice oA on oc) (.int .i64 a2) (.int .i64 c2) (.slice tA tn tc) (.slice eA en ec) (.slice rA rn rc)) fun hHeld=>?_;clear hK K;refine tk 9 3 ?_;refine wz ?_;have hR9:=gF HR14.out rfl (.int .i64 D.id) (.int .i64 D.nodes) (.int .i64 D.next) (.slice oA on oc) (.int .i64 a2) (.int .i64 c2) (.slice tA tn tc) (.slice eA en ec) (.slice rA rn rc);obtain ⟨r_0,r_1,r_2,r_3,r_4,r_5,r_6,r_7,r_8⟩:=bx9 hR9.box;have ho9:aP cT (((((((((Z.setCell ⟨gr,0,none⟩ D.id).setCell ⟨gr,1,none⟩ D.nodes).setCell ⟨gr,2,none⟩ D.next).setCell ⟨gr,3,none⟩ (.slice oA on oc)).setCell ⟨gr,4,none⟩ a2).setCell ⟨gr,5,none⟩ c2).setCell ⟨gr,6,none⟩ (.slice tA tn tc)).setCell ⟨gr,7,none⟩ (.slice eA en ec)).setCell ⟨gr,8,none⟩ (.slice rA rn rc)) w.heap.size (.slice uA un uc) ps (dD D tn):=(HO14.out.lows hgrW (.int .i64 D.id) (.int .i64 D.nodes) (.int .i64 D.next) (.slice oA on oc) (.int .i64 a2) (.int .i64 c2) (.slice tA tn tc) (.slice eA en ec) (.slice rA rn rc)).mono (Nat.le_trans hgr0 (Nat.le_of_lt hgrW));have HO9:=ħ ho9;have hb9:=bU (g:=gr) hb14 hgr0 (.int .i64 D.id) (.int .i64 D.nodes) (.int .i64 D.next) (.slice oA on oc) (.int .i64 a2) (.int .i64 c2) (.slice tA tn tc) (.slice eA en ec) (.slice rA rn rc);have HB9:=ħ hb9;clear hR9 ho9 hb9;go_wp2_with fail
    exact bodyPost_ret (v:=.tuple #[.agg #[D.id,D.nodes,D.next,.slice oA on oc,a2,c2,.slice tA tn tc,.slice eA en ec,.slice rA rn rc],.slice uA un uc]) y50 rfl ⟨_,_,_,ps,rfl,by (rw [HTN.out];exact HO9.out),HB9.out⟩
theorem DH (P:aF) (D:aD) (w:World) (h:bG w P D) (hm:dZ D=true) (hs:dY D) (hwa:D.wa.length≤1000000) :
 Calls prog 102 #[P.val D] w fun e w'=>∃A n c ps,e=.returned (.tuple #[P.val (aG D),.slice A n c])∧aP cT w' w.heap.size (.slice A n c) ps (gN D)∧Below w w w':=by
 obtain ⟨⟨oA,on,oc⟩,⟨tA,tn,tc⟩,⟨eA,en,ec⟩,⟨rA,rn,rc⟩⟩:=P;have hM:=cX.1 hm;obtain ⟨ha0,ha1⟩:=eQ.1 hM.2.2.2.2.1;obtain ⟨hc0,hc1⟩:=eQ.1 hM.2.2.2.2.2.1;have hon0:D.op.length=on:=h.op.1;have H:=ħ h;have HM:=ħ hm;have HS:=ħ hs;have HTN:=ħ hwa;clear h hm hs hwa hM;refine mn D.age fun age hag=>?_;refine mn D.clock fun clock hck=>?_;refine mn (min (clock+1) 1099511627776) fun c2 hc2=>?_;refine mn ((if 0<on then min (age+1) 1099511627776 else age)) fun a2 ha2=>?_;have hT:aG D={D with clock:=c2,age:=a2}:=by unfold aG;rw [hag,hck,hon0,hc2,ha2]
 rw [hT];have hL1:c2 % 3=0→gN D=dD D D.wa.length:=fun h=>by unfold gN;rw [hck,hc2,if_pos h]
 have hL0:c2 % 3≠0→gN D=[]:=fun h=>by unfold gN;rw [hck,hc2,if_neg h]
 refine mn (gN D) fun tl htl=>?_;rw [htl] at hL1 hL0 ⊢;have HL1:=ħ hL1;have HL0:=ħ hL0;rw [hck] at hc0 hc1;rw [hag] at ha0 ha1;have hcb:0≤c2∧c2≤1099511627776:=by omega
 obtain ⟨hcb0,hcb1⟩:=hcb;show Calls prog 102 #[.agg (cV D oA on oc tA tn tc eA en ec rA rn rc)] w fun e w'=>∃A n c ps,e=.returned (.tuple #[.agg #[D.id,D.nodes,D.next,.slice oA on oc,a2,c2,.slice tA tn tc,.slice eA en ec,.slice rA rn rc],.slice A n c])∧aP cT w' w.heap.size (.slice A n c) ps tl∧Below w w w';rw [hag,hck];have HA2:=ħ ha2;clear hT hag hck hon0 ha2 hL1 hL0 htl;have zc:∀(z:Bool),((c2 % 3) != 0)=z→((c2.tmod 3) != 0)=z:=fun z hz=>by rw [Int.tmod_eq_emod_of_nonneg hcb0];exact hz
 have HZC:=ħ zc;clear zc;by_cases hcl:clock=1099511627776
 · subst hcl;obtain rfl:c2=1099511627776:=by omega
   obtain rfl:=HL0.out y5;clear hc2 HZC HL1 HL0;rcases Nat.eq_zero_or_pos on with hon|hon
   · subst hon;obtain rfl:a2=age:=by have:=HA2.out;rw [if_neg y2] at this;exact this.symm
     clear HA2;go_enter func102,ntmps102
     go_wp2_with fail
     exact bodyPost_ret (v:=.tuple #[.agg #[D.id,D.nodes,D.next,.slice oA 0 oc,a2,.int .i64 1099511627776,.slice tA tn tc,.slice eA en ec,.slice rA rn rc],n0]) y20 rfl ⟨none,0,0,[],rfl,aP.nil _ _,aJ⟩
   · have hmin2:min (age+1) 1099511627776=a2:=by have:=HA2.out;rw [if_pos hon] at this;exact this
     have hond:decide (0<on)=true:=by simpa using hon
     clear HA2;by_cases hag:age=1099511627776
     · subst hag;obtain rfl:a2=1099511627776:=by omega
       clear hmin2;go_enter func102,ntmps102
       go_wp2_with fail
       exact bodyPost_ret (v:=.tuple #[.agg #[D.id,D.nodes,D.next,.slice oA on oc,.int .i64 1099511627776,.int .i64 1099511627776,.slice tA tn tc,.slice eA en ec,.slice rA rn rc],n0]) y20 rfl ⟨none,0,0,[],rfl,aP.nil _ _,aJ⟩
     · have hag1:age+1≤1099511627776:=by omega
       obtain rfl:a2=age+1:=by omega
       go_enter func102,ntmps102
       go_wp2_with fail
       exact bodyPost_ret (v:=.tuple #[.agg #[D.id,D.nodes,D.next,.slice oA on oc,.int .i64 (age+1),.int .i64 1099511627776,.slice tA tn tc,.slice eA en ec,.slice rA rn rc],n0]) y20 rfl ⟨none,0,0,[],rfl,aP.nil _ _,aJ⟩
 · have hcl1:clock+1≤1099511627776:=by omega
   obtain rfl:c2=clock+1:=by omega
   rcases hz:((clock+1) % 3 != 0) with _|_
   · have hz2:=HZC.out _ hz;obtain rfl:=HL1.out y92;clear HZC HL1 HL0;rcases Nat.eq_zero_or_pos on with hon|hon
     · subst hon;obtain rfl:a2=age:=by have:=HA2.out;rw [if_neg y2] at this;exact this.symm
       clear HA2;go_enter func102,ntmps102
       go_upto_region 7 with fail
       rename_i K0 hK0 K1 hK1
       have hX2:Blk (((w.alloc (.cells #[D.id,D.nodes,D.next,.slice oA 0 oc,a2,clock,.slice tA tn tc,.slice eA en ec,.slice rA rn rc] 27)).alloc (.cells cZ 27)).alloc (.cells #[D.id,D.nodes,D.next,.slice oA 0 oc,a2,.int .i64 (clock+1),.slice tA tn tc,.slice eA en ec,.slice rA rn rc,n0] 142)) (w.heap.size+1) 27 cZ:=by
        have:=(Blk.new (w.alloc (.cells #[D.id,D.nodes,D.next,.slice oA 0 oc,a2,clock,.slice tA tn tc,.slice eA en ec,.slice rA rn rc] 27)) 27 cZ).up (w':=(((w.alloc (.cells #[D.id,D.nodes,D.next,.slice oA 0 oc,a2,clock,.slice tA tn tc,.slice eA en ec,.slice rA rn rc] 27)).alloc (.cells cZ 27)).alloc (.cells #[D.id,D.nodes,D.next,.slice oA 0 oc,a2,.int .i64 (clock+1),.slice tA tn tc,.slice eA en ec,.slice rA rn rc,n0] 142))) (aJ);simpa using this
       have hX3:Blk (((w.alloc (.cells #[D.id,D.nodes,D.next,.slice oA 0 oc,a2,clock,.slice tA tn tc,.slice eA en ec,.slice rA rn rc] 27)).alloc (.cells cZ 27)).alloc (.cells #[D.id,D.nodes,D.next,.slice oA 0 oc,a2,.int .i64 (clock+1),.slice tA tn tc,.slice eA en ec,.slice rA rn rc,n0] 142)) (w.heap.size+1+1) 142 [D.id,D.nodes,D.next,.slice oA 0 oc,a2,.int .i64 (clock+1),.slice tA tn tc,.slice eA en ec,.slice rA rn rc,n0]:=by
        have:=Blk.new ((w.alloc (.cells #[D.id,D.nodes,D.next,.slice oA 0 oc,a2,clock,.slice tA tn tc,.slice eA en ec,.slice rA rn rc] 27)).alloc (.cells cZ 27)) 142 [D.id,D.nodes,D.next,.slice oA 0 oc,a2,.int .i64 (clock+1),.slice tA tn tc,.slice eA en ec,.slice rA rn rc,n0];simpa using this
       have hbX:Below w w (((w.alloc (.cells #[D.id,D.nodes,D.next,.slice oA 0 oc,a2,clock,.slice tA tn tc,.slice eA en ec,.slice rA rn rc] 27)).alloc (.cells cZ 27)).alloc (.cells #[D.id,D.nodes,D.next,.slice oA 0 oc,a2,.int .i64 (clock+1),.slice tA tn tc,.slice eA en ec,.slice rA rn rc,n0] 142)):=aJ;exact yC D w _ (w.heap.size+1) (w.heap.size+1+1) a2 (clock+1) oA tA eA rA 0 oc tn tc en ec rn rc hK0 hK1 H.out HM.out HS.out HTN.out hbX y2 y2 hX2 hX3
     · have hmin2:min (age+1) 1099511627776=a2:=by have:=HA2.out;rw [if_pos hon] at this;exact this
       have hond:decide (0<on)=true:=by simpa using hon
       clear HA2;by_cases hag:age=1099511627776
       · subst hag;obtain rfl:a2=1099511627776:=by omega
         clear hmin2;go_enter func102,ntmps102
         go_upto_region 7 with fail
         rename_i K0 hK0 K1 hK1
         have hX2:Blk (((w.alloc (.cells #[D.id,D.nodes,D.next,.slice oA on oc,.int .i64 1099511627776,clock,.slice tA tn tc,.slice eA en ec,.slice rA rn rc] 27)).alloc (.cells cZ 27)).alloc (.cells #[D.id,D.nodes,D.next,.slice oA on oc,.int .i64 1099511627776,.int .i64 (clock+1),.slice tA tn tc,.slice eA en ec,.slice rA rn rc,n0] 142)) (w.heap.size+1) 27 cZ:=by
          have:=(Blk.new (w.alloc (.cells #[D.id,D.nodes,D.next,.slice oA on oc,.int .i64 1099511627776,clock,.slice tA tn tc,.slice eA en ec,.slice rA rn rc] 27)) 27 cZ).up (w':=(((w.alloc (.cells #[D.id,D.nodes,D.next,.slice oA on oc,.int .i64 1099511627776,clock,.slice tA tn tc,.slice eA en ec,.slice rA rn rc] 27)).alloc (.cells cZ 27)).alloc (.cells #[D.id,D.nodes,D.next,.slice oA on oc,.int .i64 1099511627776,.int .i64 (clock+1),.slice tA tn tc,.slice eA en ec,.slice rA rn rc,n0] 142))) (aJ);simpa using this
         have hX3:Blk (((w.alloc (.cells #[D.id,D.nodes,D.next,.slice oA on oc,.int .i64 1099511627776,clock,.slice tA tn tc,.slice eA en ec,.slice rA rn rc] 27)).alloc (.cells cZ 27)).alloc (.cells #[D.id,D.nodes,D.next,.slice oA on oc,.int .i64 1099511627776,.int .i64 (clock+1),.slice tA tn tc,.slice eA en ec,.slice rA rn rc,n0] 142)) (w.heap.size+1+1) 142 [D.id,D.nodes,D.next,.slice oA on oc,.int .i64 1099511627776,.int .i64 (clock+1),.slice tA tn tc,.slice eA en ec,.slice rA rn rc,n0]:=by
          have:=Blk.new ((w.alloc (.cells #[D.id,D.nodes,D.next,.slice oA on oc,.int .i64 1099511627776,clock,.slice tA tn tc,.slice eA en ec,.slice rA rn rc] 27)).alloc (.cells cZ 27)) 142 [D.id,D.nodes,D.next,.slice oA on oc,.int .i64 1099511627776,.int .i64 (clock+1),.slice tA tn tc,.slice eA en ec,.slice rA rn rc,n0];simpa using this
         have hbX:Below w w (((w.alloc (.cells #[D.id,D.nodes,D.next,.slice oA on oc,.int .i64 1099511627776,clock,.slice tA tn tc,.slice eA en ec,.slice rA rn rc] 27)).alloc (.cells cZ 27)).alloc (.cells #[D.id,D.nodes,D.next,.slice oA on oc,.int .i64 1099511627776,.int .i64 (clock+1),.slice tA tn tc,.slice eA en ec,.slice rA rn rc,n0] 142)):=aJ;exact yC D w _ (w.heap.size+1) (w.heap.size+1+1) 1099511627776 (clock+1) oA tA eA rA on oc tn tc en ec rn rc hK0 hK1 H.out HM.out HS.out HTN.out hbX y2 y2 hX2 hX3
       · have hag1:age+1≤1099511627776:=by omega
         obtain rfl:a2=age+1:=by omega
         go_enter func102,ntmps102
         go_upto_region 7 with fail
         rename_i K0 hK0 K1 hK1
         have hX2:Blk (((w.alloc (.cells #[D.id,D.nodes,D.next,.slice oA on oc,age,clock,.slice tA tn tc,.slice eA en ec,.slice rA rn rc] 27)).alloc (.cells cZ 27)).alloc (.cells #[D.id,D.nodes,D.next,.slice oA on oc,.int .i64 (age+1),.int .i64 (clock+1),.slice tA tn tc,.slice eA en ec,.slice rA rn rc,n0] 142)) (w.heap.size+1) 27 cZ:=by
          have:=(Blk.new (w.alloc (.cells #[D.id,D.nodes,D.next,.slice oA on oc,age,clock,.slice tA tn tc,.slice eA en ec,.slice rA rn rc] 27)) 27 cZ).up (w':=(((w.alloc (.cells #[D.id,D.nodes,D.next,.slice oA on oc,age,clock,.slice tA tn tc,.slice eA en ec,.slice rA rn rc] 27)).alloc (.cells cZ 27)).alloc (.cells #[D.id,D.nodes,D.next,.slice oA on oc,.int .i64 (age+1),.int .i64 (clock+1),.slice tA tn tc,.slice eA en ec,.slice rA rn rc,n0] 142))) (aJ);simpa using this
         have hX3:Blk (((w.alloc (.cells #[D.id,D.nodes,D.next,.slice oA on oc,age,clock,.slice tA tn tc,.slice eA en ec,.slice rA rn rc] 27)).alloc (.cells cZ 27)).alloc (.cells #[D.id,D.nodes,D.next,.slice oA on oc,.int .i64 (age+1),.int .i64 (clock+1),.slice tA tn tc,.slice eA en ec,.slice rA rn rc,n0] 142)) (w.heap.size+1+1) 142 [D.id,D.nodes,D.next,.slice oA on oc,.int .i64 (age+1),.int .i64 (clock+1),.slice tA tn tc,.slice eA en ec,.slice rA rn rc,n0]:=by
          have:=Blk.new ((w.alloc (.cells #[D.id,D.nodes,D.next,.slice oA on oc,age,clock,.slice tA tn tc,.slice eA en ec,.slice rA rn rc] 27)).alloc (.cells cZ 27)) 142 [D.id,D.nodes,D.next,.slice oA on oc,.int .i64 (age+1),.int .i64 (clock+1),.slice tA tn tc,.slice eA en ec,.slice rA rn rc,n0];simpa using this
         have hbX:Below w w (((w.alloc (.cells #[D.id,D.nodes,D.next,.slice oA on oc,age,clock,.slice tA tn tc,.slice eA en ec,.slice rA rn rc] 27)).alloc (.cells cZ 27)).alloc (.cells #[D.id,D.nodes,D.next,.slice oA on oc,.int .i64 (age+1),.int .i64 (clock+1),.slice tA tn tc,.slice eA en ec,.slice rA rn rc,n0] 142)):=aJ;exact yC D w _ (w.heap.size+1) (w.heap.size+1+1) (age+1) (clock+1) oA tA eA rA on oc tn tc en ec rn rc hK0 hK1 H.out HM.out HS.out HTN.out hbX y2 y2 hX2 hX3
   · have hz2:=HZC.out _ hz;obtain rfl:=HL0.out y92;clear HZC HL1 HL0;rcases Nat.eq_zero_or_pos on with hon|hon
     · subst hon;obtain rfl:a2=age:=by have:=HA2.out;rw [if_neg y2] at this;exact this.symm
       clear HA2;go_enter func102,ntmps102
       go_wp2_with fail
       exact bodyPost_ret (v:=.tuple #[.agg #[D.id,D.nodes,D.next,.slice oA 0 oc,a2,.int .i64 (clock+1),.slice tA tn tc,.slice eA en ec,.slice rA rn rc],n0]) y20 rfl ⟨none,0,0,[],rfl,aP.nil _ _,aJ⟩
     · have hmin2:min (age+1) 1099511627776=a2:=by have:=HA2.out;rw [if_pos hon] at this;exact this
       have hond:decide (0<on)=true:=by simpa using hon
       clear HA2;by_cases hag:age=1099511627776
       · subst hag;obtain rfl:a2=1099511627776:=by omega
         clear hmin2;go_enter func102,ntmps102
         go_wp2_with fail
         exact bodyPost_ret (v:=.tuple #[.agg #[D.id,D.nodes,D.next,.slice oA on oc,.int .i64 1099511627776,.int .i64 (clock+1),.slice tA tn tc,.slice eA en ec,.slice rA rn rc],n0]) y20 rfl ⟨none,0,0,[],rfl,aP.nil _ _,aJ⟩
       · have hag1:age+1≤1099511627776:=by omega
         obtain rfl:a2=age+1:=by omega
         go_enter func102,ntmps102
         go_wp2_with fail
         exact bodyPost_ret (v:=.tuple #[.agg #[D.id,D.nodes,D.next,.slice oA on oc,.int .i64 (age+1),.int .i64 (clock+1),.slice tA tn tc,.slice eA en ec,.slice rA rn rc],n0]) y20 rfl ⟨none,0,0,[],rfl,aP.nil _ _,aJ⟩
theorem DL (P:aF) (D:aD) (w:World) (h:bG w P D) (hs:dY D) (hm:dZ D=true) (hwa:D.wa.length≤1000000) :
 Calls prog 55 #[P.val D] w fun e w'=>∃P' A n c ps,e=.returned (.tuple #[P'.val (aG D),.slice A n c,z0])∧aX w' w.heap.size P' (aG D)∧aP cT w' w.heap.size (.slice A n c) ps (gN D)∧Below w w w':=by
 have H:=ħ h;have HS:=ħ hs;have HM:=ħ hm;have HWA:=ħ hwa;clear h hs hm hwa;show Calls prog 55 #[.agg (cW D P)] w _;go_enter func55,ntmps55
 go_wp2_with fail
 have hX1:Blk ((w.alloc (.cells (cW D P) 27)).alloc (.cells cZ 27)) w.heap.size 27 (cW D P):=(Blk.new w 27 (cW D P)).up (aJ)
 have hX3:Blk ((w.alloc (.cells (cW D P) 27)).alloc (.cells cZ 27)) (w.heap.size+1) 27 cZ:=by
  have:=Blk.new (w.alloc (.cells (cW D P) 27)) 27 cZ;simpa using this
 have hbX:Below w w ((w.alloc (.cells (cW D P) 27)).alloc (.cells cZ 27)):=aJ;have hzX:w.heap.size+2≤((w.alloc (.cells (cW D P) 27)).alloc (.cells cZ 27)).heap.size:=by simp
 generalize ((w.alloc (.cells (cW D P) 27)).alloc (.cells cZ 27))=X at *;have HX1:=ħ hX1;have HX3:=ħ hX3;clear hX1 hX3;refine (dK P D true _ (H.out.up hbX) HM.out).mono ?_;rintro e w1 ⟨rfl,hb1⟩;have hY1:=HX1.out.up hb1;have HY3:=ħ (HX3.out.up hb1);have hbY:=aA hbX hb1;have hzY:w.heap.size+2≤w1.heap.size:=Nat.le_trans hzX hb1.size;obtain ⟨a_0,a_1,a_2,a_3,a_4,a_5,a_6,a_7,a_8⟩:=bx9 hY1.box;have HY1:=ħ hY1;clear hY1 HX1 HX3 hb1 hzX hbX;go_wp2_with fail
 refine (gU P D _ (H.out.up hbY) HS.out).mono ?_;rintro e w3 ⟨⟨⟨oA2,on2,oc2⟩,⟨tA2,tn2,tc2⟩,⟨eA2,en2,ec2⟩,⟨rA2,rn2,rc2⟩⟩,he3,hO3,-,hb3⟩;simp only [aF.val] at he3;subst he3
 have hl3:D.op.length=on2:=by
  have e1:=(hO3.work HS.out).op.1;exact e1
 have HL3:=ħ hl3;clear hl3;have HO3:=ħ (hO3.mono (B':=w.heap.size+2) y2);have HV1:=ħ (HY1.out.up hb3);have HV3:=ħ (HY3.out.up hb3);have hbV:=aA hbY hb3;have hzV:w.heap.size+2≤w3.heap.size:=Nat.le_trans hzY hb3.size;clear hO3 HY1 HY3 hb3 hzY hbY a_0 a_1 a_2 a_3 a_4 a_5 a_6 a_7 a_8;go_wp2_with fail
 refine (DH ⟨⟨oA2,on2,oc2⟩,⟨tA2,tn2,tc2⟩,⟨eA2,en2,ec2⟩,⟨rA2,rn2,rc2⟩⟩ D _ (HO3.out.work HS.out) HM.out HS.out HWA.out).mono ?_;rintro e w4 ⟨mA,mn,mc,mps,he4,hm4,hb4⟩;have HM4:=ħ (hm4.mono (B':=w.heap.size+2) hzV);clear hm4;simp only [aF.val] at he4;subst he4;have hU1:=HV1.out.up hb4;have hU3:=HV3.out.up hb4;have hbU:=aA hbV hb4;have hzU:w.heap.size+2≤w4.heap.size:=Nat.le_trans hzV hb4.size;have HOU:=ħ (HO3.out.up hb4);have fU1:=hU1.frozen;have lU1:=hU1.lt;obtain ⟨v_0,v_1,v_2,v_3,v_4,v_5,v_6,v_7,v_8⟩:=bx9 hU1.box;have HU1:=ħ hU1;have HU3:=ħ hU3;clear hU1 hU3 HV1 HV3 HO3 hbV hzV hb4;go_upto_region 4 with fail
 have hR:=gF HU1.out rfl (.int .i64 (aG D).id) (.int .i64 (aG D).nodes) (.int .i64 (aG D).next) (.slice oA2 on2 oc2) (.int .i64 (aG D).age) (.int .i64 (aG D).clock) (.slice tA2 tn2 tc2) (.slice eA2 en2 ec2) (.slice rA2 rn2 rc2);have hS:=(HU3.out.sets9 (g:=w.heap.size) y2 (.int .i64 (aG D).id) (.int .i64 (aG D).nodes) (.int .i64 (aG D).next) (.slice oA2 on2 oc2) (.int .i64 (aG D).age) (.int .i64 (aG D).clock) (.slice tA2 tn2 tc2) (.slice eA2 en2 ec2) (.slice rA2 rn2 rc2));have hW:=HOU.out.low9 (g:=w.heap.size) y2 (.int .i64 (aG D).id) (.int .i64 (aG D).nodes) (.int .i64 (aG D).next) (.slice oA2 on2 oc2) (.int .i64 (aG D).age) (.int .i64 (aG D).clock) (.slice tA2 tn2 tc2) (.slice eA2 en2 ec2) (.slice rA2 rn2 rc2);have hm9:aP cT (((((((((w4.setCell ⟨w,0,none⟩ (.int .i64 (aG D).id)).setCell ⟨w,1,none⟩ (.int .i64 (aG D).nodes)).setCell ⟨w,2,none⟩ (.int .i64 (aG D).next)).setCell ⟨w,3,none⟩ (.slice oA2 on2 oc2)).setCell ⟨w,4,none⟩ (.int .i64 (aG D).age)).setCell ⟨w,5,none⟩ (.int .i64 (aG D).clock)).setCell ⟨w,6,none⟩ (.slice tA2 tn2 tc2)).setCell ⟨w,7,none⟩ (.slice eA2 en2 ec2)).setCell ⟨w,8,none⟩ (.slice rA2 rn2 rc2)) (w.heap.size+2) (.slice mA mn mc) mps (gN D):=HM4.out.lows y2 (.int .i64 (aG D).id) (.int .i64 (aG D).nodes) (.int .i64 (aG D).next) (.slice oA2 on2 oc2) (.int .i64 (aG D).age) (.int .i64 (aG D).clock) (.slice tA2 tn2 tc2) (.slice eA2 en2 ec2) (.slice rA2 rn2 rc2);have hbR:=eX hbU (Nat.le_refl _) (.int .i64 (aG D).id) (.int .i64 (aG D).nodes) (.int .i64 (aG D).next) (.slice oA2 on2 oc2) (.int .i64 (aG D).age) (.int .i64 (aG D).clock) (.slice tA2 tn2 tc2) (.slice eA2 en2 ec2) (.slice rA2 rn2 rc2);refine nm ((((((((((w4.setCell ⟨w,0,none⟩ (.int .i64 (aG D).id)).setCell ⟨w,1,none⟩ (.int .i64 (aG D).nodes)).setCell ⟨w,2,none⟩ (.int .i64 (aG D).next)).setCell ⟨w,3,none⟩ (.slice oA2 on2 oc2)).setCell ⟨w,4,none⟩ (.int .i64 (aG D).age)).setCell ⟨w,5,none⟩ (.int .i64 (aG D).clock)).setCell ⟨w,6,none⟩ (.slice tA2 tn2 tc2)).setCell ⟨w,7,none⟩ (.slice eA2 en2 ec2)).setCell ⟨w,8,none⟩ (.slice rA2 rn2 rc2))) fun Y hY=>?_;rw [←hY] at hR hS hW hbR hm9;have HM9:=ħ hm9;clear hm9 HM4;rw [←hY];clear hY v_0 v_1 v_2 v_3 v_4 v_5 v_6 v_7 v_8 HU1 HU3 HOU fU1 lU1 hbU hzU;have fS:=hS.frozen;have lS:=hS.lt;obtain ⟨a_0,a_1,a_2,a_3,a_4,a_5,a_6,a_7,a_8⟩:=bx9 hR.box;obtain ⟨s_0,s_1,s_2,s_3,s_4,s_5,s_6,s_7,s_8⟩:=bx9 hS.box;have HW:=ħ hW;have HR:=ħ hR;have HSx:=ħ hS;have HBR:=ħ hbR;clear hR hS hW hbR;go_wp2_with fail
 have HM5:Hid (aP cT (((((((((Y.setCell ⟨w.heap.size+1,0,none⟩ (.int .i64 (aG D).id)).setCell ⟨w.heap.size+1,1,none⟩ (.int .i64 (aG D).nodes)).setCell ⟨w.heap.size+1,2,none⟩ (.int .i64 (aG D).next)).setCell ⟨w.heap.size+1,3,none⟩ (.slice oA2 on2 oc2)).setCell ⟨w.heap.size+1,4,none⟩ (.int .i64 (aG D).age)).setCell ⟨w.heap.size+1,5,none⟩ (.int .i64 (aG D).clock)).setCell ⟨w.heap.size+1,6,none⟩ (.slice tA2 tn2 tc2)).setCell ⟨w.heap.size+1,7,none⟩ (.slice eA2 en2 ec2)).setCell ⟨w.heap.size+1,8,none⟩ (.slice rA2 rn2 rc2)) w.heap.size (.slice mA mn mc) mps (gN D)):=ħ ((HM9.out.lows y2 (.int .i64 (aG D).id) (.int .i64 (aG D).nodes) (.int .i64 (aG D).next) (.slice oA2 on2 oc2) (.int .i64 (aG D).age) (.int .i64 (aG D).clock) (.slice tA2 tn2 tc2) (.slice eA2 en2 ec2) (.slice rA2 rn2 rc2)).mono y2);have hR5:=gF HSx.out rfl (.int .i64 (aG D).id) (.int .i64 (aG D).nodes) (.int .i64 (aG D).next) (.slice oA2 on2 oc2) (.int .i64 (aG D).age) (.int .i64 (aG D).clock) (.slice tA2 tn2 tc2) (.slice eA2 en2 ec2) (.slice rA2 rn2 rc2);obtain ⟨r_0,r_1,r_2,r_3,r_4,r_5,r_6,r_7,r_8⟩:=bx9 hR5.box;have hWO:=(HW.out.low9 (g:=w.heap.size+1) y2 (.int .i64 (aG D).id) (.int .i64 (aG D).nodes) (.int .i64 (aG D).next) (.slice oA2 on2 oc2) (.int .i64 (aG D).age) (.int .i64 (aG D).clock) (.slice tA2 tn2 tc2) (.slice eA2 en2 ec2) (.slice rA2 rn2 rc2)).tick;exact bodyPost_ret (v:=.tuple #[.agg #[.int .i64 (aG D).id,.int .i64 (aG D).nodes,.int .i64 (aG D).next,.slice oA2 on2 oc2,.int .i64 (aG D).age,.int .i64 (aG D).clock,.slice tA2 tn2 tc2,.slice eA2 en2 ec2,.slice rA2 rn2 rc2],.slice mA mn mc,z0]) (by simp [results,results55,go_sem,r_0,r_1,r_2,r_3,r_4,r_5,r_6,r_7,r_8]) rfl ⟨⟨⟨oA2,on2,oc2⟩,⟨tA2,tn2,tc2⟩,⟨eA2,en2,ec2⟩,⟨rA2,rn2,rc2⟩⟩,mA,mn,mc,mps,rfl,hWO.mono y2,HM5.out,eX HBR.out y2 (.int .i64 (aG D).id) (.int .i64 (aG D).nodes) (.int .i64 (aG D).next) (.slice oA2 on2 oc2) (.int .i64 (aG D).age) (.int .i64 (aG D).clock) (.slice tA2 tn2 tc2) (.slice eA2 en2 ec2) (.slice rA2 rn2 rc2)⟩
end Go.Proofs.YtgfakefcmbpboaaGreat
