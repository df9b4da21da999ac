/- Part 46 of what WorkerExact leans on. No conditions. -/
import Derived.Test.YtgfakefcmbpboaaGreatV45
namespace Go.Proofs.YtgfakefcmbpboaaGreat
set_option linter.all false
set_option maxRecDepth 100000
set_option maxHeartbeats 64000000
open _root_.Go.Proofs.Tryz Go.RowKit
open Tok
theorem But.blk7 {B g k:Nat} {w w':World} {t:TypeId} {cs:List Value} (h:But B g w w') (hb:Blk w k t cs) (hk:k<B) (hne:k≠g):Blk w' k t cs:=hb.of_heap (h.block k hk hne)
def uS (id fr d:Int) (b:bY):aY:=⟨3,id,fr,d,b,⟨0,0,[],[]⟩,⟨⟨0,0,[],[]⟩,0,[]⟩,[]⟩
noncomputable def fV (D:aD) (fr:Int) (ds:List Int):Nat→List aY
 | 0=>[]
 | k+1=>fV D fr ds k ++ if dL D.he (nth ds k)=true then [uS D.id fr (nth ds k) (hth D.he (bB D.he (nth ds k))).b] else []
theorem jO (D:aD) (fr:Int) (ds:List Int) (k:Nat):fV D fr ds (k+1)=fV D fr ds k ++ if dL D.he (nth ds k)=true then [uS D.id fr (nth ds k) (hth D.he (bB D.he (nth ds k))).b] else []:=rfl
theorem yO (D:aD) (fr:Int) (ds:List Int) (k:Nat):(fV D fr ds k).length≤k:=by
 induction k with
 | zero=>simp [fV]
 | succ k ih=>
  rw [jO,List.length_append];split<;>simp<;>omega
theorem DJ (P:aF) (D:aD) (Pm:bQ) (M:aY) (B:Nat) (w:World) (hO:aX w B P D) (hs:dY D) (hB:B≤w.heap.size) (hm:dZ D=true) (hp:aL w Pm.ds.A Pm.ds.n M.ds) (hzn:Pm.ds.n≤800000000) (hk:M.ki=7) :
 Calls prog 96 #[P.val D,M18 Pm M] w fun e w'=>∃P' A n c,e=.returned (.tuple #[P'.val D,.slice A n c])∧aX w' B P' D∧dH w' w.heap.size (.slice A n c) (fV D M.fr M.ds M.ds.length)∧Below w w w':=by
 obtain ⟨⟨oA,on,oc⟩,⟨tA,tn,tc⟩,⟨eA,en,ec⟩,⟨rA,rn,rc⟩⟩:=P;obtain ⟨⟨bA,bn,bc⟩,⟨⟨xA,xn,xc⟩,⟨yA,yn,yc⟩⟩,⟨⟨⟨cA,cn,cd⟩,⟨dA,dn,dc⟩⟩,⟨sA,sn,sc⟩⟩,⟨zA,zn,zc⟩⟩:=Pm;obtain ⟨ki,fr,tt,di,b,hd,cc,ds⟩:=M;dsimp only at hp hzn hk;subst hk;have HM:=ħ (cX.1 hm);have HW:=ħ (hO.work hs);have HO0:=ħ hO;have HS:=ħ hs;have HDS:=ħ hp;refine mn (bB D.he di) fun lo hlo=>?_;refine mn (dL D.he di) fun yh hyh=>?_;have HLO:=ħ hlo;have HYH:=ħ hyh;have HEN:Hid (D.he.length=en):=ħ HW.out.he.1;have hen:en≤1024:=by rw [←HEN.out];exact HM.out.2.2.2.2.2.2.2.1
 have HSO:Hid (dQ D.he):=ħ (fD.1 HM.out.2.2.2.2.2.2.2.2.2.2.1).sorted;have hdl:ds.length=zn:=hp.1;dsimp only;rw [hdl];clear hO hs hm hp hlo hyh hdl;show Calls prog 96 #[.agg (cV D oA on oc tA tn tc eA en ec rA rn rc),.agg (cN (7:Int) fr tt di b hd cc bA bn bc xA xn xc yA yn yc cA cn cd dA dn dc sA sn sc zA zn zc)] w _;go_enter func96,ntmps96
 go_upto_region 2 with fail
 refine aW (fun W hW=>?_);have HBM:Hid (Blk W (w.heap.size+1) 49 (cN (7:Int) fr tt di b hd cc bA bn bc xA xn xc yA yn yc cA cn cd dA dn dc sA sn sc zA zn zc)):=ħ (by rw [hW];exact ((Blk.new1 w 27 49 (cV D oA on oc tA tn tc eA en ec rA rn rc) (cN (7:Int) fr tt di b hd cc bA bn bc xA xn xc yA yn yc cA cn cd dA dn dc sA sn sc zA zn zc)).up (aB (Below.refl _ _))).up (aB (Below.refl _ _)))
 have HR:Hid (Blk W (w.heap.size+1+1) 27 cZ):=ħ (by
  rw [hW];have h9:=Blk.new1 (w.alloc (.cells (cV D oA on oc tA tn tc eA en ec rA rn rc) 27)) 49 27 (cN (7:Int) fr tt di b hd cc bA bn bc xA xn xc yA yn yc cA cn cd dA dn dc sA sn sc zA zn zc) cZ;rw [show (w.alloc (.cells (cV D oA on oc tA tn tc eA en ec rA rn rc) 27)).heap.size=w.heap.size+1 by simp] at h9;exact h9.up (aB (Below.refl _ _)))
 have HG:Hid (Blk W (w.heap.size+1+1+1) 142 (cU D oA on oc tA tn tc eA en ec rA rn rc none 0 0)):=ħ (by
  rw [hW];have h9:=Blk.new1 ((w.alloc (.cells (cV D oA on oc tA tn tc eA en ec rA rn rc) 27)).alloc (.cells (cN (7:Int) fr tt di b hd cc bA bn bc xA xn xc yA yn yc cA cn cd dA dn dc sA sn sc zA zn zc) 49)) 27 142 cZ (cU D oA on oc tA tn tc eA en ec rA rn rc none 0 0)
  rwa [show ((w.alloc (.cells (cV D oA on oc tA tn tc eA en ec rA rn rc) 27)).alloc (.cells (cN (7:Int) fr tt di b hd cc bA bn bc xA xn xc yA yn yc cA cn cd dA dn dc sA sn sc zA zn zc) 49)).heap.size=w.heap.size+1+1 by simp] at h9)
 have hbW:Below w w W:=by rw [hW];exact aB (aB (aB (aB (Below.refl _ _))))
 clear hW;refine nm (w.heap.size+1+1+1) fun gs hgs=>?_;refine nm (w.heap.size+1+1) fun gr hgr=>?_;refine nm (w.heap.size+1) fun gm hgm=>?_;rw [←hgs] at HG;rw [←hgr] at HR;rw [←hgm] at HBM;have hgs3:gs=w.heap.size+3:=by rw [hgs]
 have hgr3:gr=w.heap.size+2:=by rw [hgr]
 try rw [←hgs]
 try rw [←hgr]
 try rw [←hgm]
 try rw [←hgs3]
 try rw [←hgr3]
 have hgmr:gm<gr:=by omega
 have hgrs:gr<gs:=by omega
 have hgwm:w.heap.size<gm:=by omega
 clear hgs hgr hgm hgs3 hgr3;obtain ⟨S,hSd⟩:∃S:World→Prop,S=fun Q=>Q.cell? ⟨gs,7,none⟩=some (.slice eA en ec)∧Q.cell? ⟨gm,3,none⟩=some (.int .i64 di):=⟨_,rfl⟩;have hS1:∀Q,S Q→Q.cell? ⟨gs,7,none⟩=some (.slice eA en ec):=fun Q h=>by rw [hSd] at h;exact h.1
 have hS2:∀Q,S Q→Q.cell? ⟨gm,3,none⟩=some (.int .i64 di):=fun Q h=>by rw [hSd] at h;exact h.2
 have hS:∀Q,Below W W Q→S Q:=fun Q hQ=>by rw [hSd];exact ⟨(HG.out.up hQ).box.2 7 _ rfl,(HBM.out.up hQ).box.2 3 _ rfl⟩
 clear hSd;refine hdq hS fun hHeld=>?_;have hbd:=bdr W;have hZ:=hHeld;generalize W.drew=Z at *;refine tk 0 17 ?_;refine tk 1 18 ?_;refine tk 2 19 ?_;refine tk 3 20 ?_;refine tq 4 21 hS1 ?_;refine tk 5 22 ?_;refine tq 6 23 hS2 ?_;refine ry 7 fun K hK=>?_;go_simp;(go_at_call 118;refine (gZ eA en ec D.he di lo yh _ (HW.out.he.up (aA hbW hbd)) HSO.out y2 HLO.out HYH.out).mono ?_;rintro e w5 ⟨rfl,hb5⟩)
 refine hkq hK (hS _ (aA hbd hb5)) fun hHeld=>?_;clear hK K;refine tk 8 16 ?_;refine tk 9 25 ?_;refine tk 10 26 ?_;refine tk 11 7 ?_;refine tk 12 8 ?_;refine wz ?_;refine nm w5 fun X hX=>?_;rw [←hX] at hb5 ⊢;have hbX0:=aA hbW (aA hbd hb5);have HGX:=ħ (HG.out.up (aA hbd hb5));have HMX:=ħ (HBM.out.up (aA hbd hb5));have HRX:=ħ (HR.out.up (aA hbd hb5));have hgs0:w.heap.size≤gs:=by omega
 clear hX hb5 hbd hHeld hZ HG HBM HR hbW hS hS1 hS2;have m0:=HMX.out.box.2 0 _ rfl;have m17:=HMX.out.box.2 17 _ rfl;have hgl:=HMX.out.lt;have hgsX:=HGX.out.lt;have hgmX:=HMX.out.lt;go_wp2_with fail
 clear m0 m17 hgl
 go_loopw [32] (fun iv wr=>∃(k:Nat) (uA:Option Addr) (un uc:Nat) (ps:List bQ),k≤zn∧iv=.int .i64 k∧Hid (Blk wr gs 142 (cU D oA on oc tA tn tc eA en ec rA rn rc uA un uc))∧Hid (aP cT wr X.heap.size (.slice uA un uc) ps (fV D fr ds k))∧But X.heap.size gs X wr) (fun iv _=>zn-(intOf iv).toNat)
 case atStart=>exact ⟨0,none,0,0,[],Nat.zero_le _,rfl,HGX,ħ (aP.nil _ _),But.refl _ _ _⟩
 case round=>
  obtain ⟨k,uA,un,uc,ps,hk,rfl,HGS,HO,hbut⟩:=hrel
  (obtain ⟨wk,hwk⟩:∃x,x=wr:=⟨_,rfl⟩);subst hwk
  have hszk:=hbut.size;have hbw0:Below w w wk:=hbX0.trans ((hbut.below (Nat.le_of_lt hgsX)).mono hgs0);by_cases hlt:k<zn
  · skip
    obtain ⟨b9,off,e1,hb,hc⟩:=HDS.out.2.2 y2;subst e1;have q0:=(hbw0.cell (p:=⟨b9,off+k,none⟩) hb).trans (hc k hlt);have hbl:b9<wk.heap.size:=Nat.lt_of_lt_of_le hb hbw0.size;refine mn (bB D.he (nth ds k)) fun lo hlo=>?_;refine mn (dL D.he (nth ds k)) fun y hy=>?_;have HLO:=ħ hlo;have HY:=ħ hy;have hlk:(k:Int)<(zn:Int):=by omega
    clear hc hlo hy;have g7:=HGS.out.box.2 7 _ rfl;have hgk:=HGS.out.lt;cases y
    · skip
      have hs:fV D fr ds (k+1)=fV D fr ds k:=by rw [jO,if_neg y73,List.append_nil]
      have HSL:=ħ hs;clear hs;go_wp2_with (go_at_call 118;refine (gZ eA en ec D.he (nth ds k) lo false _ (HW.out.he.up hbw0) HSO.out y2 HLO.out HY.out).mono ?_;rintro e w5 ⟨rfl,hb5⟩)
      clear g7 hgk q0 hbl
      (refine rnd ?_;exact ⟨k+1,uA,un,uc,ps,by omega,by go_num,ħ (HGS.out.up hb5),by (rw [HSL.out];exact ħ (HO.out.up hb5)),hbut.trans (But.of_below (hb5.mono hszk))⟩)
    · skip
      obtain ⟨hlo1,hlo2⟩:=oB HLO.out HY.out;have hlen1:lo<en:=by have e1:=HEN.out;omega
      go_upto_region 9 with (go_at_call 118;refine (gZ eA en ec D.he (nth ds k) lo true _ (HW.out.he.up hbw0) HSO.out y2 HLO.out HY.out).mono ?_;rintro e w5 ⟨rfl,hb5⟩)
      clear g7 hgk q0 hbl;obtain ⟨b2,o2,e2,hb2,hc2⟩:=HW.out.he.2.2 (by show 0<en;omega);dsimp only at e2;subst e2;obtain ⟨bA2,bn2,bc2,⟨f0,f1,f2,f3⟩,hTX⟩:=hc2 lo hlen1;have hbn2:bn2≤800000000:=by rw [←hTX.1];exact HS.out.he.2 _ (cB hlo1)
      have HBN2:=ħ hTX.1;have hs:fV D fr ds (k+1)=fV D fr ds k ++ [uS D.id fr (nth ds k) (hth D.he lo).b]:=by rw [jO,if_pos HY.out,HLO.out]
      have HSL:=ħ hs;have HTX2:=ħ hTX;have HGS:=ħ (HGS.out.up hb5);have HO:=ħ (HO.out.up hb5);have hbut5:=hbut.trans (But.of_below (hb5.mono hszk));have hszk5:=hbut5.size;have hbX:∀Q,But X.heap.size gs w5 Q→Below w w Q:=fun Q hQ=>hbX0.trans (((hbut5.trans hQ).below (Nat.le_of_lt hgsX)).mono hgs0);clear hs hTX hc2 hbut hszk hb5 hbw0;obtain ⟨S,hSd⟩:∃S:World→Prop,S=fun Q=>But X.heap.size gs w5 Q∧Q.cell? ⟨gs,7,none⟩=some (.slice (some ⟨b2,o2,none⟩) en ec):=⟨_,rfl⟩;have hS7:∀Q,S Q→Q.cell? ⟨gs,7,none⟩=some (.slice (some ⟨b2,o2,none⟩) en ec):=fun Q h=>by rw [hSd] at h;exact h.2
      have hSm:∀Q,S Q→Q.cell? ⟨gm,1,none⟩=some (.int .i64 fr):=fun Q h=>by rw [hSd] at h;exact (But.blk7 (hbut5.trans h.1) HMX.out hgmX y2).box.2 1 _ rfl
      have hS8:∀Q,S Q→Q.rangeAt b2 (o2+lo*4+1) [.int .i64 (hth D.he lo).b.au,.int .i64 (hth D.he lo).b.n,.slice bA2 bn2 bc2]:=fun Q h=>by
       rw [hSd] at h;have hq:=hbX Q h.1;intro j u hu;have hj:j<3:=(List.getElem?_eq_some_iff.1 hu).1;have hcell:∀o v,w.cell? ⟨b2,o,none⟩=some v→Q.cell? ⟨b2,o,none⟩=some v:=fun o v hv=>(hq.cell (p:=⟨b2,o,none⟩) hb2).trans hv
       match j,hj,hu with
       | 0,_,hu=>injection hu with hu;subst hu;exact hcell _ _ f1
       | 1,_,hu=>injection hu with hu;subst hu;exact hcell _ _ f2
       | 2,_,hu=>injection hu with hu;subst hu;exact hcell _ _ f3
      have hSG:∀Q,But X.heap.size gs w5 Q→∀A n c,Blk Q gs 142 [D.id,D.nodes,D.next,.slice oA on oc,D.age,D.clock,.slice tA tn tc,.slice (some ⟨b2,o2,none⟩) en ec,.slice rA rn rc,.slice A n c]→S Q:=fun Q hQ A n c hG=>by rw [hSd];exact ⟨hQ,hG.box.2 7 _ rfl⟩
      have hS:∀Q,Below w5 w5 Q→S Q:=fun Q hQ=>hSG Q (But.of_below (hQ.mono hszk5)) _ _ _ (HGS.out.up hQ);clear hSd f0 f1 f2 f3;refine hdq hS fun hHeld=>?_;have hbd:=bdr w5;have hZ:=hHeld;generalize w5.drew=Z at *;refine tk 0 47 ?_;refine tk 1 48 ?_;refine tq 2 49 hSm ?_;refine tk 3 50 ?_;refine tk 4 51 ?_;refine tk 5 52 ?_;refine tk 6 53 ?_;refine tk 7 54 ?_;refine tq 8 55 hS7 ?_;refine tk 9 56 ?_;refine tk 10 57 ?_;refine tk 11 58 ?_;refine ld 12 59 hS8 underlying43 ?_;refine ry 13 fun K hK=>?_;go_simp;(go_at_call 135;refine (tU (hth D.he lo).b bA2 bn2 bc2 _ (HTX2.out.up (hbX _ (But.of_below (hbd.mono hszk5)))) hbn2).mono ?_;rintro e w6 ⟨v7,rfl,ho7,hb6⟩;obtain ⟨A7,c7,rfl,-⟩:=ho7.txs (by rw [HBN2.out];omega);rw [HBN2.out] at ho7 ⊢)
      have hM7:dS w6 X.heap.size ⟨⟨A7,bn2,c7⟩,⟨⟨none,0,0⟩,⟨none,0,0⟩⟩,⟨⟨⟨none,0,0⟩,⟨none,0,0⟩⟩,⟨none,0,0⟩⟩,⟨none,0,0⟩⟩ (⟨3,0,0,nth ds k,(hth D.he lo).b,⟨0,0,[],[]⟩,⟨⟨0,0,[],[]⟩,0,[]⟩,[]⟩:aY):=⟨ho7.mono (Nat.le_trans hszk5 hbd.size),aE.nil _ _,aE.nil _ _,aE.nil _ _,aE.nil _ _,aE.nil _ _,aE.nil _ _⟩;have HM7:=ħ hM7;have hb67:=aA hbd hb6;clear ho7 hM7;refine hkq hK (hS _ hb67) fun hHeld=>?_;clear hK K;refine tk 14 61 ?_;refine ry 15 fun K hK=>?_;go_simp;(go_at_call 133;refine (xU gs X.heap.size D.id fr (.int .i64 D.nodes) (.int .i64 D.next) (.slice oA on oc) (.int .i64 D.age) (.int .i64 D.clock) (.slice tA tn tc) (.slice (some ⟨b2,o2,none⟩) en ec) (.slice rA rn rc) uA un uc ps (fV D fr ds k) ⟨⟨A7,bn2,c7⟩,⟨⟨none,0,0⟩,⟨none,0,0⟩⟩,⟨⟨⟨none,0,0⟩,⟨none,0,0⟩⟩,⟨none,0,0⟩⟩,⟨none,0,0⟩⟩ ⟨3,0,0,nth ds k,(hth D.he lo).b,⟨0,0,[],[]⟩,⟨⟨0,0,[],[]⟩,0,[]⟩,[]⟩ _ (HGS.out.up hb67) hgsX (Nat.le_trans hszk5 hb67.size) (HO.out.up hb67) (by have:=yO D fr ds k;omega) HM7.out).mono ?_;rintro e w8 ⟨X8,A8,n8,c8,rfl,rfl,hbX8,hkX,hoX⟩)
      have hG8:=(hkX _ _ _ y5 (HGS.out.up hb67)).set_ 9 (.slice A8 n8 c8);have hBt8:But X.heap.size gs w5 (X8.setCell ⟨gs,9,none⟩ (.slice A8 n8 c8)):=((But.of_below (hb67.mono hszk5)).trans (But.of_below hbX8)).setg;have hO8:=hoX.low (o:=9) (u:=.slice A8 n8 c8) hgsX;refine hkq hK (hSG _ hBt8 _ _ _ hG8) fun hHeld=>?_;clear hK K;refine wz ?_;have hbut6:=hbut5.trans hBt8;have HG8:=ħ hG8;have HO8:Hid (aP cT _ X.heap.size (.slice A8 n8 c8) (ps ++ [⟨⟨A7,bn2,c7⟩,⟨⟨none,0,0⟩,⟨none,0,0⟩⟩,⟨⟨⟨none,0,0⟩,⟨none,0,0⟩⟩,⟨none,0,0⟩⟩,⟨none,0,0⟩⟩]) (fV D fr ds (k+1))):=ħ (by rw [HSL.out];exact hO8);clear hS hS7 hS8 hSm hSG hHeld hZ hG8 hO8 hbd hb6 hb67 hbX8 hkX hoX hBt8 HM7;go_wp2_with fail
      (refine rnd ?_;exact ⟨k+1,A8,n8,c8,ps ++ [⟨⟨A7,bn2,c7⟩,⟨⟨none,0,0⟩,⟨none,0,0⟩⟩,⟨⟨⟨none,0,0⟩,⟨none,0,0⟩⟩,⟨none,0,0⟩⟩,⟨none,0,0⟩⟩],by omega,by go_num,HG8,HO8,hbut6⟩)
  · skip
    obtain rfl:zn=k:=by omega
    go_upto_region 21 with fail
    rename_i K hK;have hrk:=But.blk7 hbut HRX.out (by have:=HRX.out.lt;omega) y2;have HOW:=ħ (HO0.out.up hbw0);have HMS:Hid (dH wk w.heap.size (.slice uA un uc) (fV D fr ds zn)):=ħ ⟨ps,HO.out.mono hbX0.size⟩;exact jV gr gs D.id D.nodes D.next D.age D.clock oA tA eA rA uA on oc tn tc en ec rn rc un uc _ hK y2 HGS.out hrk (fun W' ht hbn'=>⟨⟨⟨oA,on,oc⟩,⟨tA,tn,tc⟩,⟨eA,en,ec⟩,⟨rA,rn,rc⟩⟩,uA,un,uc,rfl,HOW.out.tk ht aU,HMS.out.tk ht aU,hbw0.trans (hbn' _ y2)⟩)
theorem Dq (P:aF) (D:aD) (Pm:bQ) (M:aY) (w:World) (h:bG w P D) (hs:dY D) (hp:eO w Pm M) (hzn:Pm.ds.n≤800000000) (hk:M.ki=7) (h4:pU M.ki) (hm:dZ D=true) (hb:kI M D.nodes=true) (ht:M.tt=D.id) :
 Calls prog 49 #[P.val D,M18 Pm M] w fun e w'=>∃gs P' A n c ps,e=.returned (.tuple #[.pointer (some ⟨gs,0,none⟩),z0])∧Blk w' gs 70 (cS D P' A n c)∧aX w' w.heap.size P' D∧aP cT w' w.heap.size (.slice A n c) ps (fV D M.fr M.ds M.ds.length)∧w.heap.size≤gs∧Below w w w':=by
 obtain ⟨⟨bA,bn,bc⟩,⟨⟨xA,xn,xc⟩,⟨yA,yn,yc⟩⟩,⟨⟨⟨cA,cn,cd⟩,⟨dA,dn,dc⟩⟩,⟨sA,sn,sc⟩⟩,⟨zA,zn,zc⟩⟩:=Pm;obtain ⟨ki,fr,tt,di,b,hd,cc,ds⟩:=M;have HWK:=ħ h;have HMM:=ħ hp;have HK4:Hid (pU ki):=ħ h4;have HS:=ħ hs;dsimp only at hk ht hzn;have HBY:=ħ hb;have hd1:(tt != D.id)=false:=by simp [ht]
 have HM:=ħ (cX.1 hm);have HDS:Hid (aL w zA zn ds):=ħ hp.ds;have HSO:Hid (dQ D.he):=ħ (fD.1 HM.out.2.2.2.2.2.2.2.2.2.2.1).sorted;have hdl:ds.length=zn:=hp.ds.1;dsimp only;rw [hdl];have HK7:=ħ hk;clear hdl h hp hb ht hm hs h4 hk;show Calls prog 49 #[.agg (cW D P),.agg (cN ki fr tt di b hd cc bA bn bc xA xn xc yA yn yc cA cn cd dA dn dc sA sn sc zA zn zc)] w _;go_enter func49,ntmps49
 go_upto_region 1 with fail
 refine aW (fun W hW=>?_);have HA0:Hid (Blk W w.heap.size 27 (cW D P)):=ħ y32;have HB0:Hid (Blk W (w.heap.size+1) 49 (cN ki fr tt di b hd cc bA bn bc xA xn xc yA yn yc cA cn cd dA dn dc sA sn sc zA zn zc)):=ħ (by rw [hW];exact Blk.new1 w 27 49 (cW D P) (cN ki fr tt di b hd cc bA bn bc xA xn xc yA yn yc cA cn cd dA dn dc sA sn sc zA zn zc));have hbW:Below w w W:=by rw [hW];exact aB (aB (Below.refl _ _))
 clear hW;have hql:=HA0.out.lt;have hqb:=HA0.out.box;obtain ⟨q0,q1,q2,q3,q4,q5,q6,q7,q8⟩:=bx9 hqb;clear hqb;go_upto_region 2 with (go_at_call 17;refine (bK P D _ (HWK.out.up hbW) HS.out).mono ?_;rintro e w1 ⟨⟨⟨oA2,on2,oc2⟩,⟨tA2,tn2,tc2⟩,⟨eA2,en2,ec2⟩,⟨rA2,rn2,rc2⟩⟩,he1,hO1,hb1⟩;simp only [aF.val] at he1;subst he1)
 clear q0 q1 q2 q3 q4 q5 q6 q7 q8 hql;refine aW (fun W2 hW2=>?_);have HG:Hid (Blk W2 w1.heap.size 70 (cU D oA2 on2 oc2 tA2 tn2 tc2 eA2 en2 ec2 rA2 rn2 rc2 none 0 0)):=ħ y45;have hb2:Below w1 w1 W2:=by rw [hW2];exact aB (Below.refl _ _)
 clear hW2;refine nm w1.heap.size fun gs hgs=>?_;refine nm (w.heap.size+1) fun gm hgm=>?_;refine nm w.heap.size fun gw hgw=>?_;have hE:(Value.pointer (some ⟨w,0,none⟩))=.pointer (some ⟨gw,0,none⟩):=by rw [hgw]
 have hz1:w.heap.size+2≤w1.heap.size:=by have:=(HB0.out.up hb1).lt;omega
 have HW0:Hid (Blk W2 gw 27 (cW D P)):=ħ y83;have HBM:Hid (Blk W2 gm 49 (cN ki fr tt di b hd cc bA bn bc xA xn xc yA yn yc cA cn cd dA dn dc sA sn sc zA zn zc)):=ħ y84;have HO2:=ħ ((hO1.mono (B':=w.heap.size) hbW.size).up hb2);have hb0:Below w w W2:=aA (aA hbW hb1) hb2;rw [←hgs] at HG ⊢;rw [←hgm]
 try simp only [hE]
 have hgmr:gm<gs:=by omega
 have hgwm:gw<gm:=by omega
 have hgww:w.heap.size≤gw:=by omega
 have HE1:=ħ (hO1.work HS.out).he;have HOW1:=ħ (hO1.mono (B':=w.heap.size) hbW.size);have hb12:=hb2;have hgs1:w1.heap.size≤gs:=by omega
 clear hgs hgm hgw hE HA0 HB0 hbW hb1 hb2 hO1 hz1;refine wp_region_list ?_;simp only [List.append_eq,List.append,List.cons_append,List.nil_append,List.toList_toArray];refine lm HBM.out.rng underlying49 ?_;refine pl ?_;refine wpList_plain rfl (fun K hK=>?_);have r1:=HW0.out.box.2 1 _ rfl;go_simp;refine hK _ _ ?_;clear hK K;clear r1;refine sp ?_;refine wpList_plain rfl (fun K hK=>?_);go_simp;refine (nI ⟨⟨bA,bn,bc⟩,⟨⟨xA,xn,xc⟩,⟨yA,yn,yc⟩⟩,⟨⟨⟨cA,cn,cd⟩,⟨dA,dn,dc⟩⟩,⟨sA,sn,sc⟩⟩,⟨zA,zn,zc⟩⟩ ⟨ki,fr,tt,di,b,hd,cc,ds⟩ D.nodes true _ (HMM.out.up hb0) HK4.out HBY.out).mono ?_;rintro e w3 ⟨rfl,hb3⟩;dsimp only;refine hK _ _ ?_;clear hK K;refine sp ?_;have HW3:=ħ (HW0.out.up hb3);have HB3:=ħ (HBM.out.up hb3);have HG3:=ħ (HG.out.up hb3);have HO3:=ħ (HO2.out.up hb3);have hb03:=aA hb0 hb3;have hb13:=aA hb12 hb3;clear hb3 HW0 HBM HG HO2 hb0
 iterate 3 (first|refine pl ?_|refine pg ?_)
 refine tg fun K hK=>?_;have r2:=HB3.out.box.2 2 _ rfl;go_simp;refine hK _ _ ?_;clear hK K;clear r2;refine sp ?_;refine pg ?_;refine tg fun K hK=>?_;have r0:=HW3.out.box.2 0 _ rfl;go_simp;refine hK _ _ ?_;clear hK K;clear r0;refine sp ?_
 iterate 2 (first|refine pl ?_|refine pg ?_)
 refine wpList_nil ?_;rename_i Ka hKa;refine hKa _ _ ?_;clear hKa Ka;clear hd1 hb12;have hk:=HK7.out;clear HK7;subst hk;have m0:=HB3.out.box.2 0 _ rfl;have hgl:=HB3.out.lt;have hgm3:=HB3.out.lt;have hgs3:=HG3.out.lt;go_wp2_with fail
 clear m0 hgl
 go_loopw [8] (fun iv wr=>∃(k:Nat) (uA:Option Addr) (un uc:Nat) (ps:List bQ),k≤zn∧iv=.int .i64 k∧Hid (Blk wr gs 70 (cU D oA2 on2 oc2 tA2 tn2 tc2 eA2 en2 ec2 rA2 rn2 rc2 uA un uc))∧Hid (aP cT wr w3.heap.size (.slice uA un uc) ps (fV D fr ds k))∧But w3.heap.size gs w3 wr) (fun iv _=>zn-(intOf iv).toNat)
 case atStart=>exact ⟨0,none,0,0,[],Nat.zero_le _,rfl,HG3,ħ (aP.nil _ _),But.refl _ _ _⟩
 case round=>
  obtain ⟨k,uA,un,uc,ps,hk7,rfl,HGS,HO,hbut⟩:=hrel
  (obtain ⟨wk,hwk⟩:∃x,x=wr:=⟨_,rfl⟩);subst hwk
  have hszk:=hbut.size;have hbw1:Below w1 w1 wk:=hb13.trans ((hbut.below (Nat.le_of_lt hgs3)).mono hgs1);have hbw0:Below w w wk:=hb03.trans ((hbut.below (Nat.le_of_lt hgs3)).mono y2);have HMk:=ħ (But.blk7 hbut HB3.out hgm3 y2);have m17:=HMk.out.box.2 17 _ rfl;have hml:=HMk.out.lt;by_cases hlt:k<zn
  · skip
    obtain ⟨b9,off,e1,hb,hc⟩:=HDS.out.2.2 y2;subst e1;have q0:=(hbw0.cell (p:=⟨b9,off+k,none⟩) hb).trans (hc k hlt);have hbl:b9<wk.heap.size:=Nat.lt_of_lt_of_le hb hbw0.size;have HQ:=ħ (hc k hlt);refine mn (bB D.he (nth ds k)) fun lo hlo=>?_;refine mn (dL D.he (nth ds k)) fun y hy=>?_;have HLO:=ħ hlo;have HY:=ħ hy;have hlk:(k:Int)<(zn:Int):=by omega
    clear hc hlo hy;cases y
    · skip
      have hs:fV D fr ds (k+1)=fV D fr ds k:=by rw [jO,if_neg y73,List.append_nil]
      have HSL:=ħ hs;clear hs;have hfi:=CZ HY.out;refine mn (fC D.he (nth ds k)) fun zf hzf=>?_;rw [hzf] at hfi;have HZF:=ħ hzf;clear hzf;go_wp2_with (go_at_call 83;refine (eI gs _ _ _ _ _ _ _ _ _ eA2 en2 ec2 D.he (nth ds k) wk HGS.out (HE1.out.up hbw1) HSO.out).mono ?_;rintro e w' ⟨rfl,rfl⟩;rw [HZF.out])
      clear m17 hml q0 hbl
      (refine rnd ?_;exact ⟨k+1,uA,un,uc,ps,by omega,by go_num,HGS,by (rw [HSL.out];exact HO),hbut⟩)
    · skip
      obtain ⟨hlo1,hlo2⟩:=oB HLO.out HY.out;have hlen1:lo<en2:=by have e1:=HE1.out.1;omega
      have HZF:Hid (fC D.he (nth ds k)=(lo:Int)):=ħ (by unfold fC;rw [if_pos HY.out,HLO.out]);have hfi:decide ((lo:Int)≥0)=true:=by simp
      go_upto_region 24 with (go_at_call 83;refine (eI gs _ _ _ _ _ _ _ _ _ eA2 en2 ec2 D.he (nth ds k) wk HGS.out (HE1.out.up hbw1) HSO.out).mono ?_;rintro e w' ⟨rfl,rfl⟩;rw [HZF.out])
      clear m17 hml q0;obtain ⟨b2,o2,e2,hb2,hc2⟩:=HE1.out.2.2 y2;subst e2;obtain ⟨bA2,bn2,bc2,⟨f0,f1,f2,f3⟩,hTX⟩:=hc2 lo hlen1;have hbn2:bn2≤800000000:=by rw [←hTX.1];exact HS.out.he.2 _ (cB hlo1)
      have HBN2:=ħ hTX.1;have hs:fV D fr ds (k+1)=fV D fr ds k ++ [uS D.id fr (nth ds k) (hth D.he lo).b]:=by rw [jO,if_pos HY.out,HLO.out]
      have HSL:=ħ hs;have HTX2:=ħ hTX;have hbX:∀Q,But w3.heap.size gs wk Q→Below w1 w1 Q:=fun Q hQ=>hb13.trans (((hbut.trans hQ).below (Nat.le_of_lt hgs3)).mono hgs1);have hbX0:∀Q,But w3.heap.size gs wk Q→Below w w Q:=fun Q hQ=>hb03.trans (((hbut.trans hQ).below (Nat.le_of_lt hgs3)).mono y2);clear hs hTX hc2 hbw0 hbw1 hfi hbl;obtain ⟨S,hSd⟩:∃S:World→Prop,S=fun Q=>But w3.heap.size gs wk Q∧Q.cell? ⟨gs,7,none⟩=some (.slice (some ⟨b2,o2,none⟩) en2 ec2):=⟨_,rfl⟩;have hS7:∀Q,S Q→Q.cell? ⟨gs,7,none⟩=some (.slice (some ⟨b2,o2,none⟩) en2 ec2):=fun Q h=>by rw [hSd] at h;exact h.2
      have hSm:∀Q,S Q→Q.cell? ⟨gm,1,none⟩=some (.int .i64 fr):=fun Q h=>by rw [hSd] at h;exact (But.blk7 (hbut.trans h.1) HB3.out hgm3 y2).box.2 1 _ rfl
      have hSn:∀Q,S Q→Q.cell? ⟨gm,17,none⟩=some (.slice (some ⟨b9,off,none⟩) zn zc):=fun Q h=>by rw [hSd] at h;exact (But.blk7 (hbut.trans h.1) HB3.out hgm3 y2).box.2 17 _ rfl
      have hSe:∀Q,S Q→Q.cell? ⟨b9,off+k,none⟩=some (.int .i64 (nth ds k)):=fun Q h=>by rw [hSd] at h;exact ((hbX0 Q h.1).cell (p:=⟨b9,off+k,none⟩) hb).trans HQ.out
      have hS8:∀Q,S Q→Q.rangeAt b2 (o2+lo*4+1) [.int .i64 (hth D.he lo).b.au,.int .i64 (hth D.he lo).b.n,.slice bA2 bn2 bc2]:=fun Q h=>by
       rw [hSd] at h;have hq:=hbX Q h.1;intro j u hu;have hj:j<3:=(List.getElem?_eq_some_iff.1 hu).1;have hcell:∀o v,w1.cell? ⟨b2,o,none⟩=some v→Q.cell? ⟨b2,o,none⟩=some v:=fun o v hv=>(hq.cell (p:=⟨b2,o,none⟩) hb2).trans hv
       match j,hj,hu with
       | 0,_,hu=>injection hu with hu;subst hu;exact hcell _ _ f1
       | 1,_,hu=>injection hu with hu;subst hu;exact hcell _ _ f2
       | 2,_,hu=>injection hu with hu;subst hu;exact hcell _ _ f3
      have hSG:∀Q,But w3.heap.size gs wk Q→∀A n c,Blk Q gs 70 [D.id,D.nodes,D.next,.slice oA2 on2 oc2,D.age,D.clock,.slice tA2 tn2 tc2,.slice (some ⟨b2,o2,none⟩) en2 ec2,.slice rA2 rn2 rc2,.slice A n c]→S Q:=fun Q hQ A n c hG=>by rw [hSd];exact ⟨hQ,hG.box.2 7 _ rfl⟩
      have hS:∀Q,Below wk wk Q→S Q:=fun Q hQ=>hSG Q (But.of_below (hQ.mono hszk)) _ _ _ (HGS.out.up hQ);clear hSd f0 f1 f2 f3;refine hdq hS fun hHeld=>?_;have hbd:=bdr wk;have hZ:=hHeld;generalize wk.drew=Z at *;refine tk 0 120 ?_;refine tk 1 121 ?_;refine tq 2 122 hSm ?_;refine tk 3 123 ?_;refine tq 4 124 hSn ?_;refine tk 5 125 ?_;refine tk 6 126 ?_;refine tq 7 127 hSe ?_;refine tk 8 128 ?_;refine tk 9 129 ?_;refine tk 10 130 ?_;refine tk 11 131 ?_;refine tq 12 132 hS7 ?_;refine tk 13 133 ?_;refine tk 14 134 ?_;refine tk 15 135 ?_;refine ld 16 136 hS8 underlying43 ?_;refine ry 17 fun K hK=>?_;go_simp;(go_at_call 86;refine (eY (hth D.he lo).b bA2 bn2 bc2 _ (HTX2.out.up (hbX _ (But.of_below (hbd.mono hszk)))) hbn2).mono ?_;rintro e w6 ⟨v7,rfl,ho7,hb6⟩;obtain ⟨A7,c7,rfl,-⟩:=ho7.txs (by rw [HBN2.out];omega);rw [HBN2.out] at ho7 ⊢)
      have hM7:dS w6 w3.heap.size ⟨⟨A7,bn2,c7⟩,⟨⟨none,0,0⟩,⟨none,0,0⟩⟩,⟨⟨⟨none,0,0⟩,⟨none,0,0⟩⟩,⟨none,0,0⟩⟩,⟨none,0,0⟩⟩ (⟨3,0,fr,nth ds k,(hth D.he lo).b,⟨0,0,[],[]⟩,⟨⟨0,0,[],[]⟩,0,[]⟩,[]⟩:aY):=⟨ho7.mono (Nat.le_trans hszk hbd.size),aE.nil _ _,aE.nil _ _,aE.nil _ _,aE.nil _ _,aE.nil _ _,aE.nil _ _⟩;have HM7:=ħ hM7;have hb67:=aA hbd hb6;clear ho7 hM7;refine hkq hK (hS _ hb67) fun hHeld=>?_;clear hK K;refine tk 18 138 ?_;refine ry 19 fun K hK=>?_;go_simp;(go_at_call 85;refine (kB gs w3.heap.size D.id (.int .i64 D.nodes) (.int .i64 D.next) (.slice oA2 on2 oc2) (.int .i64 D.age) (.int .i64 D.clock) (.slice tA2 tn2 tc2) (.slice (some ⟨b2,o2,none⟩) en2 ec2) (.slice rA2 rn2 rc2) uA un uc ps (fV D fr ds k) ⟨⟨A7,bn2,c7⟩,⟨⟨none,0,0⟩,⟨none,0,0⟩⟩,⟨⟨⟨none,0,0⟩,⟨none,0,0⟩⟩,⟨none,0,0⟩⟩,⟨none,0,0⟩⟩ ⟨3,0,fr,nth ds k,(hth D.he lo).b,⟨0,0,[],[]⟩,⟨⟨0,0,[],[]⟩,0,[]⟩,[]⟩ _ (HGS.out.up hb67) hgs3 (Nat.le_trans hszk hb67.size) (HO.out.up hb67) (by have:=yO D fr ds k;omega) HM7.out).mono ?_;rintro e w8 ⟨X8,A8,n8,c8,rfl,rfl,hbX8,hkX,hoX⟩)
      have hG8:=(hkX _ _ _ y5 (HGS.out.up hb67)).set_ 9 (.slice A8 n8 c8);have hBt8:But w3.heap.size gs wk (X8.setCell ⟨gs,9,none⟩ (.slice A8 n8 c8)):=((But.of_below (hb67.mono hszk)).trans (But.of_below hbX8)).setg;have hO8:=hoX.low (o:=9) (u:=.slice A8 n8 c8) hgs3;refine hkq hK (hSG _ hBt8 _ _ _ hG8) fun hHeld=>?_;clear hK K;refine wz ?_;have hbut6:=hbut.trans hBt8;have HG8:=ħ hG8;have HO8:Hid (aP cT _ w3.heap.size (.slice A8 n8 c8) (ps ++ [⟨⟨A7,bn2,c7⟩,⟨⟨none,0,0⟩,⟨none,0,0⟩⟩,⟨⟨⟨none,0,0⟩,⟨none,0,0⟩⟩,⟨none,0,0⟩⟩,⟨none,0,0⟩⟩]) (fV D fr ds (k+1))):=ħ (by rw [HSL.out];exact hO8);clear hS hS7 hS8 hSm hSn hSe hSG hHeld hZ hG8 hO8 hbd hb6 hb67 hbX8 hkX hoX hBt8 HM7;go_wp2_with fail
      (refine rnd ?_;exact ⟨k+1,A8,n8,c8,ps ++ [⟨⟨A7,bn2,c7⟩,⟨⟨none,0,0⟩,⟨none,0,0⟩⟩,⟨⟨⟨none,0,0⟩,⟨none,0,0⟩⟩,⟨none,0,0⟩⟩,⟨none,0,0⟩⟩],by omega,by go_num,HG8,HO8,hbut6⟩)
  · skip
    obtain rfl:zn=k:=by omega
    go_wp2_with fail
    exact bodyPost_ret (v:=.tuple #[.pointer (some ⟨gs,0,none⟩),z0]) y24 rfl ⟨gs,⟨⟨oA2,on2,oc2⟩,⟨tA2,tn2,tc2⟩,⟨eA2,en2,ec2⟩,⟨rA2,rn2,rc2⟩⟩,uA,un,uc,ps,rfl,HGS.out,HOW1.out.up hbw1,HO.out.mono hb03.size,by omega,hbw0⟩
end Go.Proofs.YtgfakefcmbpboaaGreat
