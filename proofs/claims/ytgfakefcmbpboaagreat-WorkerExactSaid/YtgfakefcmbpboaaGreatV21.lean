/- Part 21 of what WorkerExact leans on. No conditions. -/
import Derived.Test.YtgfakefcmbpboaaGreatV15
import Derived.Test.YtgfakefcmbpboaaGreatV20
namespace Go.Proofs.YtgfakefcmbpboaaGreat
set_option linter.all false
set_option maxRecDepth 100000
set_option maxHeartbeats 64000000
open _root_.Go.Proofs.Tryz Go.RowKit
open Tok
theorem pT (P:aF) (D:aD) (d:Int) (w:World) (h:bG w P D) (hs:dY D) (hm:dZ D=true) (hE:nxE D=0) (hd:fX d=true) (hk:dL D.he d=false) (hre:D.re.length+D.wa.length≤700000000) :
 Calls prog 47 #[P.val D,d] w fun e w'=>∃P' A n c,e=.returned (.tuple #[P'.val (cF D d),.slice A n c,z0])∧aX w' w.heap.size P' (cF D d)∧dH w' w.heap.size (.slice A n c) (dF D.id d (nxD D) [] D.nodes.toNat)∧Below w w w':=by
 have H:=ħ h;have HS:=ħ hs;have HM:=ħ hm;have HE:=ħ hE;have HD:=ħ hd;have HK:=ħ hk;clear h hs hm hE hd hk;show Calls prog 47 #[.agg (cW D P),d] w _;go_enter func47,ntmps47
 go_wp2_with fail
 have hX1:Blk ((w.alloc (.cells (cW D P) 27)).alloc (.cells cZ 27)) w.heap.size 27 (cW D P):=(Blk.new w 27 (cW D P)).up (aJ)
 have hX3:Blk ((w.alloc (.cells (cW D P) 27)).alloc (.cells cZ 27)) (w.heap.size+1) 27 cZ:=by
  have:=Blk.new (w.alloc (.cells (cW D P) 27)) 27 cZ;simpa using this
 have hbX:Below w w ((w.alloc (.cells (cW D P) 27)).alloc (.cells cZ 27)):=aJ;generalize ((w.alloc (.cells (cW D P) 27)).alloc (.cells cZ 27))=X at *;have HX1:=ħ hX1;have HX3:=ħ hX3;clear hX1 hX3;refine (dK P D true _ (H.out.up hbX) HM.out).mono ?_;rintro e w1 ⟨rfl,hb1⟩;have hY1:=HX1.out.up hb1;have HY3:=ħ (HX3.out.up hb1);have hbY:=aA hbX hb1;have hly:=hY1.lt;obtain ⟨a_0,a_1,a_2,a_3,a_4,a_5,a_6,a_7,a_8⟩:=bx9 hY1.box;clear hY1 HX1 HX3 hb1 hbX;go_wp2_with fail
 refine (gU P D _ (H.out.up hbY) HS.out).mono ?_;rintro e w3 ⟨⟨⟨oA2,on2,oc2⟩,⟨tA2,tn2,tc2⟩,⟨eA2,en2,ec2⟩,⟨rA2,rn2,rc2⟩⟩,he3,hO3,-,hb3⟩;simp only [aF.val] at he3;subst he3;have HO3:=ħ (hO3.mono (B':=w.heap.size) hbY.size);have HV3:=ħ (HY3.out.up hb3);have hbV:=aA hbY hb3;clear hO3 HY3 hb3 hbY hly a_0 a_1 a_2 a_3 a_4 a_5 a_6 a_7 a_8;go_wp2_with fail
 refine (Bv ⟨⟨oA2,on2,oc2⟩,⟨tA2,tn2,tc2⟩,⟨eA2,en2,ec2⟩,⟨rA2,rn2,rc2⟩⟩ D d w.heap.size _ HO3.out HS.out hbV.size HM.out HE.out HD.out HK.out hre).mono ?_;rintro e w4 ⟨⟨⟨oA3,on3,oc3⟩,⟨tA3,tn3,tc3⟩,⟨eA3,en3,ec3⟩,⟨rA3,rn3,rc3⟩⟩,A,n,c,he4,hO4,hM4,hb4⟩;simp only [aF.val] at he4;subst he4;have hU3:=HV3.out.up hb4;have hbU:=aA hbV hb4;have HO4:=ħ hO4;have HM4:=ħ (hM4.mono hbV.size);have fU:=hU3.frozen;have lU:=hU3.lt;obtain ⟨v_0,v_1,v_2,v_3,v_4,v_5,v_6,v_7,v_8⟩:=bx9 hU3.box;have HU3:=ħ hU3;clear hU3 HV3 HO3 hbV hb4 hO4 hM4;go_wp2_with fail
 have hR5:=gF HU3.out rfl (.int .i64 (cF D d).id) (.int .i64 (cF D d).nodes) (.int .i64 (cF D d).next) (.slice oA3 on3 oc3) (.int .i64 (cF D d).age) (.int .i64 (cF D d).clock) (.slice tA3 tn3 tc3) (.slice eA3 en3 ec3) (.slice rA3 rn3 rc3);obtain ⟨r_0,r_1,r_2,r_3,r_4,r_5,r_6,r_7,r_8⟩:=bx9 hR5.box;have htz:=aC.sets9 HU3.out (.int .i64 (cF D d).id) (.int .i64 (cF D d).nodes) (.int .i64 (cF D d).next) (.slice oA3 on3 oc3) (.int .i64 (cF D d).age) (.int .i64 (cF D d).clock) (.slice tA3 tn3 tc3) (.slice eA3 en3 ec3) (.slice rA3 rn3 rc3);have hWO:=HO4.out.tk htz aU;have hMO:=HM4.out.tk htz aU;exact bodyPost_ret (v:=.tuple #[.agg #[.int .i64 (cF D d).id,.int .i64 (cF D d).nodes,.int .i64 (cF D d).next,.slice oA3 on3 oc3,.int .i64 (cF D d).age,.int .i64 (cF D d).clock,.slice tA3 tn3 tc3,.slice eA3 en3 ec3,.slice rA3 rn3 rc3],.slice A n c,z0]) (by simp [results,results47,go_sem,r_0,r_1,r_2,r_3,r_4,r_5,r_6,r_7,r_8]) rfl ⟨⟨⟨oA3,on3,oc3⟩,⟨tA3,tn3,tc3⟩,⟨eA3,en3,ec3⟩,⟨rA3,rn3,rc3⟩⟩,A,n,c,rfl,hWO,hMO,eX hbU y2 (.int .i64 (cF D d).id) (.int .i64 (cF D d).nodes) (.int .i64 (cF D d).next) (.slice oA3 on3 oc3) (.int .i64 (cF D d).age) (.int .i64 (cF D d).clock) (.slice tA3 tn3 tc3) (.slice eA3 en3 ec3) (.slice rA3 rn3 rc3)⟩
theorem mE (x:Int) (w:World):Calls prog 19 #[x] w fun e w'=>e=.returned (.int .i64 x)∧w=w':=by
 go_enter func19,ntmps19
 go_wp2
 go_ret
 exact ⟨rfl,rfl⟩
def wkT:TxD:=⟨1,1,⟨#[107]⟩,⟨#[]⟩⟩
def wkD (k:Nat):aD:=⟨1,1,1,[wkT],(k:Int),(k:Int),[],[],[]⟩
theorem Ix:txS wkT=true:=by decide
theorem JD:eL Df wkT=wkD 0:=rfl
theorem Iw {k:Nat} (h:k<4):aG (wkD k)=wkD (k+1):=by
 unfold aG wkD;have e1:min ((k:Int)+1) 1099511627776=((k+1:Nat):Int):=by omega
 simp [e1]
theorem xV (k:Nat):dY (wkD k):=⟨by simp [wkD],⟨by simp [wkD],fun x h=>by simp [wkD] at h⟩,⟨by simp [wkD],fun x h=>by simp [wkD] at h⟩,by simp [wkD]⟩
theorem EH {k:Nat} (h:k≤4):dZ (wkD k)=true:=cX.2 ⟨(by decide:isS 1=true),by simp [wkD],by simp [wkD],eQ.2 (by simp [wkD]),eQ.2 (by simp [wkD];omega),eQ.2 (by simp [wkD];omega),by simp [wkD],by simp [wkD],sQ.2 (fun j hj=>by
 have:j=0:=by simpa [wkD] using hj
 subst this;exact Ix),EI _,Ey,B5⟩
theorem E5 (d:Int):eW [] d=false:=by
 cases h:eW [] d
 · rfl
 · exact absurd (bJ.1 h).1 y17
theorem E3 (d:Int):dL [] d=false:=by
 cases h:dL [] d
 · rfl
 · exact absurd (bJ.1 h).1 y17
theorem Iv:cF (wkD 4) 7=⟨1,1,2,[],0,4,[],[⟨7,nxD (wkD 4)⟩],[7]⟩:=by
 have hw:dR (wkD 4) 7=[⟨7,[1]⟩]:=by
  unfold dR;rw [show (wkD 4).wa=[] from rfl,E5];rfl
 have hq:qS 1=1:=by unfold qS;decide
 have h1:bH 1 [⟨7,[1]⟩]=[]:=by unfold bH;simp [hq]
 have h2:bE 1 [] [⟨7,[1]⟩]=[7]:=by simp [bE,hq,cQ]
 unfold cF;rw [hw];show (⟨1,1,1+1,[wkT].drop 8,0,((4:Nat):Int),bH 1 [⟨7,[1]⟩],bM [] (bB [] 7) ⟨7,nxD (wkD 4)⟩,bE 1 [] [⟨7,[1]⟩]⟩:aD)=_;rw [h1,h2];rfl
theorem IT:dF 1 7 (nxD (wkD 4)) [] 1=[]:=by
 unfold dF dF;simp
theorem Iu:nxE (wkD 4)=0:=by
 unfold nxE wkD;simp
theorem JG:fX 7=true:=by decide
theorem IU:dL (wkD 4).he 7=false:=E3 7
theorem Ft:(wkD 4).re.length+(wkD 4).wa.length≤700000000:=by simp [wkD]
theorem EL {w:World} {g:Nat} {x:Int} (h:bX w g [x]):aL w (some ⟨g,0,none⟩) 1 [x]:=
 ⟨rfl,by omega,fun _=>⟨g,0,rfl,h.1,fun j hj=>by
  obtain rfl:j=0:=by omega
  exact h.2 0 _ rfl⟩⟩
theorem zD (w:World):Calls prog 22 #[] w fun e w'=>e=.returned (.bool true)∧Below w w w':=by
 have HT:=ħ Ix;go_enter func22,ntmps22
 go_wp2_with fail
 refine (CH _).mono ?_;rintro e w1 ⟨rfl,hb1⟩;have hbx:Below w1 w1 (w1.alloc (.cells #[.int .i64 1,.int .i64 1,.int .i64 1,n0,z0,z0,n0,n0,n0] 27)):=aJ;go_wp2_with fail
 refine (nT jG Df wkT _ (Dh _) ⟨by decide,⟨by decide,fun x h=>by simp [Df] at h⟩,⟨by decide,fun x h=>by simp [Df] at h⟩,by decide⟩ Dg HT.out y5).mono ?_;rintro e w2 ⟨P,he2,hO2,hb2⟩;rw [JD] at he2 hO2;have he2':e=.returned (.tuple #[.agg #[.int .i64 1,.int .i64 1,.int .i64 1,P.op,z0,z0,P.wa,P.he,P.re],z0]):=he2;clear he2;subst he2';have hW2:bG w2 P (wkD 0):=hO2.work (xV 0);have hN:Blk w2 w1.heap.size 27 [.int .i64 1,.int .i64 1,.int .i64 1,n0,z0,z0,n0,n0,n0]:=(Blk.new w1 27 [.int .i64 1,.int .i64 1,.int .i64 1,n0,z0,z0,n0,n0,n0]).up hb2;have hb2w:Below w w w2:=aA (aA hb1 hbx) hb2;refine nm w1.heap.size fun N hNe=>?_;rw [←hNe] at hN ⊢;have hNw:w.heap.size≤N:=by rw [hNe];exact hb1.size
 have hbw2s:w.heap.size≤(w1.alloc (.cells #[.int .i64 1,.int .i64 1,.int .i64 1,n0,z0,z0,n0,n0,n0] 27)).heap.size:=Nat.le_trans hb1.size hbx.size;clear hNe;have HN:=ħ hN;have hnf:=hN.frozen;have hnl:=hN.lt;obtain ⟨a_0,a_1,a_2,a_3,a_4,a_5,a_6,a_7,a_8⟩:=bx9 hN.box;have hS:=gF hN rfl (.int .i64 1) (.int .i64 1) (.int .i64 1) (.slice P.op.A P.op.n P.op.c) (.int .i64 0) (.int .i64 0) (.slice P.wa.A P.wa.n P.wa.c) (.slice P.he.A P.he.n P.he.c) (.slice P.re.A P.re.n P.re.c);have htS:=aC.sets9 hN (.int .i64 1) (.int .i64 1) (.int .i64 1) (.slice P.op.A P.op.n P.op.c) (.int .i64 0) (.int .i64 0) (.slice P.wa.A P.wa.n P.wa.c) (.slice P.he.A P.he.n P.he.c) (.slice P.re.A P.re.n P.re.c);have hbS:=eX hb2w hNw (.int .i64 1) (.int .i64 1) (.int .i64 1) (.slice P.op.A P.op.n P.op.c) (.int .i64 0) (.int .i64 0) (.slice P.wa.A P.wa.n P.wa.c) (.slice P.he.A P.he.n P.he.c) (.slice P.re.A P.re.n P.re.c);have hOS:=hO2.tk htS aU;have HS:=ħ hS;have HOS:=ħ (aX.mono (B':=w.heap.size) hOS hbw2s);have HBS:=ħ hbS;clear hS htS hbS hOS hO2 hW2 hN HN hb2;go_upto_region 4 with fail
 refine nm ((((((((((w2.setCell ⟨N,0,none⟩ (.int .i64 1)).setCell ⟨N,1,none⟩ (.int .i64 1)).setCell ⟨N,2,none⟩ (.int .i64 1)).setCell ⟨N,3,none⟩ P.op).setCell ⟨N,4,none⟩ z0).setCell ⟨N,5,none⟩ z0).setCell ⟨N,6,none⟩ P.wa).setCell ⟨N,7,none⟩ P.he).setCell ⟨N,8,none⟩ P.re)) fun Y hY=>?_;rw [←hY] at HS HOS HBS ⊢;clear hY a_0 a_1 a_2 a_3 a_4 a_5 a_6 a_7 a_8 hnf hnl hbw2s
 go_loopw [4] (fun iv wr=>∃(k:Nat) (P:aF),k≤4∧iv=.int .i64 k∧Hid (Blk wr N 27 [.int .i64 1,.int .i64 1,.int .i64 1,P.op,k,k,P.wa,P.he,P.re])∧Hid (aX wr w.heap.size P (wkD k))∧Below w w wr) (fun iv _=>4-(intOf iv).toNat)
 case atStart=>exact ⟨0,P,by omega,rfl,HS,HOS,HBS.out⟩
 case round=>
  clear HS HOS HBS hb2w;obtain ⟨k,P,hk,rfl,HB,HO,hbw⟩:=hrel
  (obtain ⟨wk,hwk⟩:∃x,x=wr:=⟨_,rfl⟩);subst hwk
  have hNl:=HB.out.lt;obtain ⟨a_0,a_1,a_2,a_3,a_4,a_5,a_6,a_7,a_8⟩:=bx9 HB.out.box;by_cases hlt:k<4
  · go_wp2_with fail
    refine (CI P (wkD k) _ (HO.out.work (xV k)) (xV k) (EH y2) rfl (by show (0:Int)≤(k:Int);omega) (by show (k:Int)≤_;omega) (by show (0:Int)≤(k:Int);omega) (by show (k:Int)≤_;omega)).mono ?_;rintro e w5 ⟨⟨⟨oA5,on5,oc5⟩,⟨tA5,tn5,tc5⟩,⟨eA5,en5,ec5⟩,⟨rA5,rn5,rc5⟩⟩,he5,hO5,hb5⟩;rw [Iw hlt] at he5 hO5;have he5':e=.returned (.tuple #[.agg #[.int .i64 1,.int .i64 1,.int .i64 1,.slice oA5 on5 oc5,.int .i64 ((k:Int)+1),.int .i64 ((k:Int)+1),.slice tA5 tn5 tc5,.slice eA5 en5 ec5,.slice rA5 rn5 rc5],n0,z0]):=he5;clear he5;subst he5';have hN5:=HB.out.up hb5;have HN5:=ħ hN5;have HO5:=ħ (hO5.mono (B':=w.heap.size) hbw.size);have hn5:=hN5.lt;have hf5:=hN5.frozen;clear a_0 a_1 a_2 a_3 a_4 a_5 a_6 a_7 a_8 hNl hO5;obtain ⟨a_0,a_1,a_2,a_3,a_4,a_5,a_6,a_7,a_8⟩:=bx9 hN5.box;have hb5w:Below w w w5:=aA hbw hb5;clear hN5 hb5;go_wp2_with (go_at_call 19;refine (mE _ _).mono ?_;rintro e w' ⟨rfl,rfl⟩)
    have hS5:=gF HN5.out rfl (.int .i64 1) (.int .i64 1) (.int .i64 1) (.slice oA5 on5 oc5) (.int .i64 ((k:Int)+1)) (.int .i64 ((k:Int)+1)) (.slice tA5 tn5 tc5) (.slice eA5 en5 ec5) (.slice rA5 rn5 rc5);have ht5:=aC.sets9 HN5.out (.int .i64 1) (.int .i64 1) (.int .i64 1) (.slice oA5 on5 oc5) (.int .i64 ((k:Int)+1)) (.int .i64 ((k:Int)+1)) (.slice tA5 tn5 tc5) (.slice eA5 en5 ec5) (.slice rA5 rn5 rc5);have hO6:=HO5.out.tk ht5 aU;have hk1:k+1≤4:=hlt;have hb6:=eX hb5w hNw (.int .i64 1) (.int .i64 1) (.int .i64 1) (.slice oA5 on5 oc5) (.int .i64 ((k:Int)+1)) (.int .i64 ((k:Int)+1)) (.slice tA5 tn5 tc5) (.slice eA5 en5 ec5) (.slice rA5 rn5 rc5);have hkk:(Value.int .i64 ((k:Int)+1))=.int .i64 ((k+1:Nat):Int):=by rw [Int.natCast_add];rfl
    clear ht5 HN5 HO5 hb5w a_0 a_1 a_2 a_3 a_4 a_5 a_6 a_7 a_8 HB HO
    (refine rnd ?_;exact ⟨k+1,⟨⟨oA5,on5,oc5⟩,⟨tA5,tn5,tc5⟩,⟨eA5,en5,ec5⟩,⟨rA5,rn5,rc5⟩⟩,hk1,hkk,ħ (hS5.up (aB (Below.refl _ _))),ħ (hO6.up (aB (Below.refl _ _))),aB hb6⟩)
  · obtain rfl:k=4:=by omega
    go_wp2_with fail
    refine (pT P (wkD 4) 7 _ (HO.out.work (xV 4)) (xV 4) (EH (Nat.le_refl 4)) Iu JG IU Ft).mono ?_;rintro e w5 ⟨⟨⟨oA5,on5,oc5⟩,⟨tA5,tn5,tc5⟩,⟨eA5,en5,ec5⟩,⟨rA5,rn5,rc5⟩⟩,A,n,c,he5,hO5,hM5,hb5⟩;rw [Iv] at he5 hO5;have he5':e=.returned (.tuple #[.agg #[.int .i64 1,.int .i64 1,.int .i64 2,.slice oA5 on5 oc5,z0,.int .i64 4,.slice tA5 tn5 tc5,.slice eA5 en5 ec5,.slice rA5 rn5 rc5],.slice A n c,z0]):=he5;clear he5;subst he5';have hM6:dH w5 wk.heap.size (.slice A n c) []:=by rw [←IT];exact hM5
    obtain ⟨ps,hT⟩:=hM6;obtain ⟨A',c',e',_⟩:=hT.read;injection e' with e1 e2 e3;have e2':n=0:=e2;subst e2';obtain ⟨A7,c7,e7,hi7,_⟩:=hO5.re.ints y17;unfold SlP.v at e7;injection e7 with f1 f2 f3;have f2':rn5=1:=f2;have f1':rA5=A7:=f1;subst f2';have hi8:aL w5 rA5 1 [7]:=by rw [f1'];exact hi7
    have HI:=ħ hi8;have hN5:=HB.out.up hb5;have hn5:=hN5.lt;have hf5:=hN5.frozen;have HN5:=ħ hN5;have HO5:=ħ hO5;clear a_0 a_1 a_2 a_3 a_4 a_5 a_6 a_7 a_8 hNl hO5 hM5 hT e1 e2 e3 f1 f2 f3 f1' hi7 hi8;obtain ⟨a_0,a_1,a_2,a_3,a_4,a_5,a_6,a_7,a_8⟩:=bx9 hN5.box;have hb5w:Below w w w5:=aA hbw hb5;clear hN5 hb5;go_upto_region 11 with fail
    have hS6:=gF HN5.out rfl (.int .i64 1) (.int .i64 1) (.int .i64 2) (.slice oA5 on5 oc5) (.int .i64 0) (.int .i64 4) (.slice tA5 tn5 tc5) (.slice eA5 en5 ec5) (.slice rA5 1 rc5);have ht6:=aC.sets9 HN5.out (.int .i64 1) (.int .i64 1) (.int .i64 2) (.slice oA5 on5 oc5) (.int .i64 0) (.int .i64 4) (.slice tA5 tn5 tc5) (.slice eA5 en5 ec5) (.slice rA5 1 rc5);have hb6:=eX hb5w hNw (.int .i64 1) (.int .i64 1) (.int .i64 2) (.slice oA5 on5 oc5) (.int .i64 0) (.int .i64 4) (.slice tA5 tn5 tc5) (.slice eA5 en5 ec5) (.slice rA5 1 rc5);have hr6:aE _ wk.heap.size (.slice rA5 1 rc5) [7]:=eS HO5.out.re ht6 aU y5 y5;refine nm ((((((((((w5.setCell ⟨N,0,none⟩ (.int .i64 1)).setCell ⟨N,1,none⟩ (.int .i64 1)).setCell ⟨N,2,none⟩ (.int .i64 2)).setCell ⟨N,3,none⟩ (.slice oA5 on5 oc5)).setCell ⟨N,4,none⟩ z0).setCell ⟨N,5,none⟩ (.int .i64 4)).setCell ⟨N,6,none⟩ (.slice tA5 tn5 tc5)).setCell ⟨N,7,none⟩ (.slice eA5 en5 ec5)).setCell ⟨N,8,none⟩ (.slice rA5 1 rc5))) fun Y6 hY6=>?_;rw [←hY6] at hS6 hb6 hr6 ⊢;obtain ⟨A8,c8,e8,hi8,_⟩:=hr6.ints y17;injection e8 with g1 g2 g3;rw [←g1] at hi8;have HI8:=ħ hi8;have HB6:=ħ hb6;have hn6:=hS6.lt;clear a_0 a_1 a_2 a_3 a_4 a_5 a_6 a_7 a_8 hY6 ht6 HN5 HO5 HI hf5 hn5 hb5w hi8 hr6 g1 g2 g3 hb6;obtain ⟨a_0,a_1,a_2,a_3,a_4,a_5,a_6,a_7,a_8⟩:=bx9 hS6.box
    go_wp2_with (first
     | (go_at_call 19;refine (mE _ _).mono ?_;rintro e w' ⟨rfl,rfl⟩)
     | (go_at_call 65;refine (dW rA5 1 rc5 [7] (some ⟨Y6,0,none⟩) 1 1 _ (HI8.out.up (aB (Below.refl _ _))) (EL (bX.new Y6 [.int .i64 7] 3))).mono ?_;rintro e w7 ⟨rfl,hb7⟩))
    go_ret
    exact ⟨rfl,aA HB6.out (aA (aB (Below.refl _ _)) hb7)⟩
def jF:Value:=.agg cZ
noncomputable def xZ (D:aD) (t:TxD):Int:=if dZ D=true∧txS t=true then (if D.op.length<64 then 0 else 8) else 1
theorem nS (P:aF) (D:aD) (t:TxD) (y:Int) (w:World) (h:bG w P D) (hy:xZ D t=y) (hy0:y≠0) :
 Calls prog 61 #[P.val D,.agg #[t.se,t.sq,.string t.k,.string t.v]] w fun e w'=>e=.returned (.tuple #[jF,y])∧Below w w w':=by
 have H:=ħ h;obtain ⟨⟨oA,on,oc⟩,⟨tA,tn,tc⟩,⟨eA,en,ec⟩,⟨rA,rn,rc⟩⟩:=P;have HON:Hid (D.op.length=on):=ħ h.op.1;refine mn (dZ D) fun z hz=>?_;have HZ:=ħ hz;clear h;show Calls prog 61 #[.agg (cV D oA on oc tA tn tc eA en ec rA rn rc),.agg #[t.se,t.sq,.string t.k,.string t.v]] w _;go_enter func61,ntmps61
 go_wp2_with fail
 have hX1:Blk (((w.alloc (.cells (cV D oA on oc tA tn tc eA en ec rA rn rc) 27)).alloc (.cells #[t.se,t.sq,.string t.k,.string t.v] 41)).alloc (.cells cZ 27)) w.heap.size 27 (cV D oA on oc tA tn tc eA en ec rA rn rc):=(Blk.new w 27 (cV D oA on oc tA tn tc eA en ec rA rn rc)).up (aJ)
 have hX2:Blk (((w.alloc (.cells (cV D oA on oc tA tn tc eA en ec rA rn rc) 27)).alloc (.cells #[t.se,t.sq,.string t.k,.string t.v] 41)).alloc (.cells cZ 27)) (w.heap.size+1) 41 [t.se,t.sq,.string t.k,.string t.v]:=by
  have:=(Blk.new (w.alloc (.cells (cV D oA on oc tA tn tc eA en ec rA rn rc) 27)) 41 [t.se,t.sq,.string t.k,.string t.v]).up (w':=(((w.alloc (.cells (cV D oA on oc tA tn tc eA en ec rA rn rc) 27)).alloc (.cells #[t.se,t.sq,.string t.k,.string t.v] 41)).alloc (.cells cZ 27))) (aJ);simpa using this
 have hX3:Blk (((w.alloc (.cells (cV D oA on oc tA tn tc eA en ec rA rn rc) 27)).alloc (.cells #[t.se,t.sq,.string t.k,.string t.v] 41)).alloc (.cells cZ 27)) (w.heap.size+2) 27 cZ:=by
  have:=Blk.new ((w.alloc (.cells (cV D oA on oc tA tn tc eA en ec rA rn rc) 27)).alloc (.cells #[t.se,t.sq,.string t.k,.string t.v] 41)) 27 cZ;simpa using this
 have hbX:Below w w (((w.alloc (.cells (cV D oA on oc tA tn tc eA en ec rA rn rc) 27)).alloc (.cells #[t.se,t.sq,.string t.k,.string t.v] 41)).alloc (.cells cZ 27)):=aJ;generalize (((w.alloc (.cells (cV D oA on oc tA tn tc eA en ec rA rn rc) 27)).alloc (.cells #[t.se,t.sq,.string t.k,.string t.v] 41)).alloc (.cells cZ 27))=X at *;have HX1:=ħ hX1;have HX2:=ħ hX2;have HX3:=ħ hX3;clear hX1 hX2 hX3;refine (dK ⟨⟨oA,on,oc⟩,⟨tA,tn,tc⟩,⟨eA,en,ec⟩,⟨rA,rn,rc⟩⟩ D z _ (H.out.up hbX) HZ.out).mono ?_;rintro e w1 ⟨rfl,hb1⟩;have hY1:=HX1.out.up hb1;have hY2:=HX2.out.up hb1;have hY3:=HX3.out.up hb1;have hbY:=aA hbX hb1;have l1:=hY1.lt;have l2:=hY2.lt;have l3:=hY3.lt;have f3:=hY3.frozen;obtain ⟨a_0,a_1,a_2,a_3,a_4,a_5,a_6,a_7,a_8⟩:=bx9 hY1.box;obtain ⟨b_0,b_1,b_2,b_3⟩:=bx4 hY2.box;obtain ⟨c_0,c_1,c_2,c_3,c_4,c_5,c_6,c_7,c_8⟩:=bx9 hY3.box;have HY1:=ħ hY1;have HY3:=ħ hY3;have HY2:=ħ hY2;clear hY1 hY2 hY3 HX1 HX2 HX3 hb1 hbX;cases z
 · have hy1:y=1:=by rw [←hy];unfold xZ;rw [if_neg (by rw [hz];simp)]
   subst hy1;clear hy;go_wp2_with fail
   exact bodyPost_ret (v:=.tuple #[.agg cZ,.int .i64 1]) (by simp [results,results61,go_sem, *]) rfl ⟨rfl,aI⟩
 · obtain ⟨z2,hz2⟩:∃z,txS t=z:=⟨_,rfl⟩;have HZ2:=ħ hz2;go_wp2_with fail
   refine (mU t z2 _ HZ2.out).mono ?_;rintro e w2 ⟨rfl,hb2⟩;have hZ1:=HY1.out.up hb2;have hZ3:=HY3.out.up hb2;have hbZ:=aA hbY hb2;have m1:=hZ1.lt;have m3:=hZ3.lt;have f4:=hZ3.frozen;clear a_0 a_1 a_2 a_3 a_4 a_5 a_6 a_7 a_8 b_0 b_1 b_2 b_3 c_0 c_1 c_2 c_3 c_4 c_5 c_6 c_7 c_8 l1 l2 l3 f3 HY1 HY2 HY3 hbY hb2;obtain ⟨a_0,a_1,a_2,a_3,a_4,a_5,a_6,a_7,a_8⟩:=bx9 hZ1.box;obtain ⟨c_0,c_1,c_2,c_3,c_4,c_5,c_6,c_7,c_8⟩:=bx9 hZ3.box;clear hZ1 hZ3;cases z2
   · have hy1:y=1:=by rw [←hy];unfold xZ;rw [if_neg (by rw [hz2];simp)]
     subst hy1;clear hy hz2;go_wp2_with fail
     exact bodyPost_ret (v:=.tuple #[.agg cZ,.int .i64 1]) (by simp [results,results61,go_sem, *]) rfl ⟨rfl,aI⟩
   · have hm:=(cX.1 hz).2.2.2.2.2.2.1;have hy1:y=if D.op.length<64 then 0 else 8:=by rw [←hy];unfold xZ;rw [if_pos ⟨hz,hz2⟩]
     have hon:on=64:=by
      rw [HON.out] at hm hy1;rcases Nat.lt_or_ge on 64 with h|h
      · rw [if_pos h] at hy1;exact absurd hy1 hy0
      · omega
     have hy8:y=8:=by rw [hy1,HON.out,if_neg y2]
     subst hy8;subst hon;clear hy hz2 hm hy1;go_wp2_with fail
     exact bodyPost_ret (v:=.tuple #[.agg cZ,.int .i64 8]) (by simp [results,results61,go_sem, *]) rfl ⟨rfl,aI⟩
end Go.Proofs.YtgfakefcmbpboaaGreat
