/- Part 42 of what WorkerExact leans on. No conditions. -/
import Derived.Test.YtgfakefcmbpboaaGreatV38
import Derived.Test.YtgfakefcmbpboaaGreatV41
namespace Go.Proofs.YtgfakefcmbpboaaGreat
set_option linter.all false
set_option maxRecDepth 100000
set_option maxHeartbeats 64000000
open _root_.Go.Proofs.Tryz Go.RowKit
open Tok
theorem xC (x n:Int) (w:World) (h1:1≤n) (h2:n≤1000000):Calls prog 40 #[x,n] w fun e w'=>(∃k:Nat,e=.returned (.int .i64 k)∧(k:Int)<n)∧w=w':=by
 have e1:IntKind.u64.wrap x=x % 18446744073709551616:=by rw [IntKind.wrap_u64]
 have e2:IntKind.u64.wrap n=n:=by rw [IntKind.wrap_u64];omega
 refine mn (wiI x n) fun y hy=>?_;have e3:((x % 18446744073709551616).tmod n)=y:=by rw [Int.tmod_eq_emod_of_nonneg y2];exact hy
 have hb:0≤y∧y<n:=by rw [←hy];exact ⟨Int.emod_nonneg _ y2,Int.emod_lt_of_pos _ y2⟩
 have e4:IntKind.i64.wrap y=y:=IntWalk.i64_in _ y2;have e5:(n == 0)=false:=by simp;omega
 have e6:¬n=0:=by omega
 clear hy;go_enter func40,ntmps40
 go_wp2
 go_ret
 exact ⟨⟨y.toNat,by rw [Int.toNat_of_nonneg hb.1];simp [*],by omega⟩,rfl⟩
theorem dS.tkT {w w':World} {B:Nat} {P M} (h:dS w B P M) (hk:aC 49 w w'):dS w' B P M:=
 ⟨aR h.b hk y5,aR h.h1 hk y5,aR h.h2 hk y5,aR h.c1 hk y5,aR h.c2 hk y5,aR h.c3 hk y5,aR h.ds hk y5⟩
theorem aC.setsAll {T:TypeId} {g:Nat}:∀{w:World} {cs:List Value} (_:Blk w g T cs) (vs:List Value) (o:Nat),aC T w (w.setCells g o vs)
 | w,_,_,[],_=>aC.refl _ _
 | w,cs,h,v :: r,o=>by rw [World.setCells];exact (aC.setg h).trans (aC.setsAll (h.set_ o v) r (o+1))
theorem But.cell {B g:Nat} {w w':World} (h:But B g w w') {b o:Nat} (hb:b<B) (hne:b≠g):w'.cell? ⟨b,o,none⟩=w.cell? ⟨b,o,none⟩:=World.cell?_of_block (h.block b hb hne)
structure wM (w W:World) (gw ga gm gr:Nat) (P:aF) (D:aD) (ad:Int) (Q:bQ) (M:aY):Prop where
 hw:Blk W gw 27 (cW D P)
 ha:W.cell? ⟨ga,1,none⟩=some (.int .i64 ad)
 hal:ga<W.heap.size
 hm:Blk W gm 49 (dB Q M)
 hr:Blk W gr 49 c18
 ho:dS W w.heap.size Q M
 mil:iA M
 hb:Below w w W
 g1:gw<gm
 g2:ga<gm
 g3:gr<gm
 g4:w.heap.size≤gr
theorem wM.set {w W:World} {gw ga gm gr:Nat} {P:aF} {D:aD} {ad:Int} {Q Q':bQ} {M M':aY} (h:wM w W gw ga gm gr P D ad Q M) {o:Nat} {u:Value} (e:dB Q' M'=(dB Q M).set o u) (ho:dS W w.heap.size Q' M') (hl:iA M'):wM w (W.setCell ⟨gm,o,none⟩ u) gw ga gm gr P D ad Q' M':=
 {hw:=h.hw.far (p:=⟨gm,o,none⟩) (by show gw≠gm;have:=h.g1;omega) u
  ha:=(World.cell?_setCell_other _ _ _ _ (by intro e;simp only [Addr.mk.injEq] at e;have:=h.g2;omega)).trans h.ha
  hal:=by simpa [World.setCell] using h.hal
  hm:=by rw [e];exact h.hm.set_ o u
  hr:=h.hr.far (p:=⟨gm,o,none⟩) (by show gr≠gm;have:=h.g3;omega) u
  ho:=ho.tkT (aC.setg h.hm)
  mil:=hl
  hb:=h.hb.setCell (p:=⟨gm,o,none⟩) (by show _≤gm;have:=h.g3;have:=h.g4;omega) u
  g1:=h.g1,g2:=h.g2,g3:=h.g3,g4:=h.g4}
theorem wM.up {w W W':World} {gw ga gm gr:Nat} {P:aF} {D:aD} {ad:Int} {Q:bQ} {M:aY} (h:wM w W gw ga gm gr P D ad Q M) (hb:Below W W W'):wM w W' gw ga gm gr P D ad Q M:=
 {hw:=h.hw.up hb,ha:=(hb.cell (p:=⟨ga,1,none⟩) h.hal).trans h.ha,hal:=Nat.lt_of_lt_of_le h.hal hb.size,hm:=h.hm.up hb,hr:=h.hr.up hb,ho:=h.ho.up hb,mil:=h.mil,hb:=aA h.hb hb,g1:=h.g1,g2:=h.g2,g3:=h.g3,g4:=h.g4}
noncomputable def wW (n:Nat):Code:=bF n (Tryz.f48.body.getD .skip)
theorem FF (w W:World) (gw ga gm gr:Nat) (P:aF) (D:aD) (ad:Int) (Q:bQ) (M:aY) {u0 u1 u6 u7 u8 u9 nN lV lW kK kL kM kN lX kO kP kQ kR kS kT kU kV kX kY lB lC lD lE lF lH lI lJ lK mS oM oN oO oP oQ oR oS oT oU oV oW oX oY oZ pB pC pD pE pF pG pH pI pJ pK pL pM mT pN pO pP pQ pR pS qM qN qO qP qQ qR qT qU qV qW qX qY qZ rB rC rD rE rF rG rH rI rJ rK rL rM rN rO rZ sB gG gH gI gJ:Value} (h:wM w W gw ga gm gr P D ad Q M):Code.wp prog (wW 8) (bodyPost prog Tryz.f48 (fun e w'=>∃Q' M',e=.returned (M18 Q' M')∧M'.ki=M.ki∧dS w' w.heap.size Q' M'∧iA M'∧Below w w w')) {tmps:=#[u0,u1,.pointer (some ⟨gw,0,none⟩),.pointer (some ⟨ga,0,none⟩),.pointer (some ⟨gr,0,none⟩),.pointer (some ⟨gm,0,none⟩),u6,u7,u8,u9,nN,lV,lW,kK,kL,kM,kN,lX,kO,kP,kQ,kR,kS,kT,kU,kV,kX,kY,lB,lC,lD,lE,lF,lH,lI,lJ,lK,mS,oM,oN,oO,oP,oQ,oR,oS,oT,oU,oV,oW,oX,oY,oZ,pB,pC,pD,pE,pF,pG,pH,pI,pJ,pK,pL,pM,mT,pN,pO,pP,pQ,pR,pS,qM,qN,qO,qP,qQ,qR,qT,qU,qV,qW,qX,qY,qZ,rB,rC,rD,rE,rF,rG,rH,rI,rJ,rK,rL,rM,rN,rO,rZ,sB,gG,gH,gI,gJ],defers:=[]} W:=by
 obtain ⟨⟨bA,bn,bc⟩,⟨⟨xA,xn,xc⟩,⟨yA,yn,yc⟩⟩,⟨⟨⟨cA,cn,cd⟩,⟨dA,dn,dc⟩⟩,⟨sA,sn,sc⟩⟩,⟨zA,zn,zc⟩⟩:=Q;obtain ⟨ki,fr,tt,di,b,hd,cc,ds⟩:=M;have HF:=ħ h;clear h;dsimp only [wW,bF,cL,dJ,Tryz.f48,Option.getD];refine wp_seq_k (fun K hK=>?_);have HK:=ħ hK;clear hK;refine wp_region_list ?_;simp only [List.toList_toArray];have HMB:Hid (Blk W gm 49 (cN ki fr tt di b hd cc bA bn bc xA xn xc yA yn yc cA cn cd dA dn dc sA sn sc zA zn zc)):=ħ HF.out.hm;refine lm HMB.out.rng underlying49 ?_;refine wpList_store_mid rfl 49 _ _ rfl gr 0 ([.int .i64 ki,.int .i64 fr,.int .i64 tt,.int .i64 di,.int .i64 b.au,.int .i64 b.n,.slice bA bn bc,.int .i64 hd.au,.int .i64 hd.ro,.slice xA xn xc,.slice yA yn yc,.int .i64 cc.h.au,.int .i64 cc.h.ro,.slice cA cn cd,.slice dA dn dc,.int .i64 cc.di,.slice sA sn sc,.slice zA zn zc]).toArray y9 y9 HF.out.hr.thr y8 (all_oneCell_toArray y16) ?_;refine sp ?_;refine wpList_nil ?_
 try simp only [List.toList_toArray]
 have HR2:Hid (Blk (W.setCells gr 0 (cN ki fr tt di b hd cc bA bn bc xA xn xc yA yn yc cA cn cd dA dn dc sA sn sc zA zn zc)) gr 49 (cN ki fr tt di b hd cc bA bn bc xA xn xc yA yn yc cA cn cd dA dn dc sA sn sc zA zn zc)):=ħ (HF.out.hr.setsAll (cN ki fr tt di b hd cc bA bn bc xA xn xc yA yn yc cA cn cd dA dn dc sA sn sc zA zn zc) rfl);have hb2:Below w w (W.setCells gr 0 (cN ki fr tt di b hd cc bA bn bc xA xn xc yA yn yc cA cn cd dA dn dc sA sn sc zA zn zc)):=dI HF.out.g4 _ _ _ HF.out.hb;have htk:aC 49 W (W.setCells gr 0 (cN ki fr tt di b hd cc bA bn bc xA xn xc yA yn yc cA cn cd dA dn dc sA sn sc zA zn zc)):=aC.setsAll HF.out.hr _ _;have HO2:=ħ (HF.out.ho.tkT htk);have HML:=ħ HF.out.mil;refine nm (W.setCells gr 0 (cN ki fr tt di b hd cc bA bn bc xA xn xc yA yn yc cA cn cd dA dn dc sA sn sc zA zn zc)) fun U hU=>?_;rw [←hU] at HR2 hb2 HO2 ⊢;clear hU htk HF HMB;show K _ _;apply HK.out;clear HK;obtain ⟨c0,c1,c2,c3,c4,c5,c6,c7,c8,c9,c10,c11,c12,c13,c14,c15,c16,c17⟩:=EQ HR2.out.box;go_wp2_with fail
 exact bodyPost_ret (v:=.agg (cN ki fr tt di b hd cc bA bn bc xA xn xc yA yn yc cA cn cd dA dn dc sA sn sc zA zn zc)) y33 rfl ⟨⟨⟨bA,bn,bc⟩,⟨⟨xA,xn,xc⟩,⟨yA,yn,yc⟩⟩,⟨⟨⟨cA,cn,cd⟩,⟨dA,dn,dc⟩⟩,⟨sA,sn,sc⟩⟩,⟨zA,zn,zc⟩⟩,⟨ki,fr,tt,di,b,hd,cc,ds⟩,rfl,rfl,HO2.out,HML.out,hb2⟩
theorem FE (w W:World) (gw ga gm gr:Nat) (P:aF) (D:aD) (ad:Int) (Q:bQ) (M:aY) {u0 u1 u6 u7 u8 u9 nN lV lW kK kL kM kN lX kO kP kQ kR kS kT kU kV kX kY lB lC lD lE lF lH lI lJ lK mS oM oN oO oP oQ oR oS oT oU oV oW oX oY oZ pB pC pD pE pF pG pH pI pJ pK pL pM mT pN pO pP pQ pR pS qM qN qO qP qQ qR qT qU qV qW qX qY qZ rB rC rD rE rF rG rH rI rJ rK rL rM rN rO rZ sB gG gH gI gJ:Value} (h:wM w W gw ga gm gr P D ad Q M) (hR:bG w P D) (hwn:D.wa.length≤1000000) (hhn:D.he.length≤1000000) (hn1:2≤D.nodes) (hn2:D.nodes≤1000) (hid:1≤D.id∧D.id≤1000):Code.wp prog (wW 7) (bodyPost prog Tryz.f48 (fun e w'=>∃Q' M',e=.returned (M18 Q' M')∧M'.ki=M.ki∧dS w' w.heap.size Q' M'∧iA M'∧Below w w w')) {tmps:=#[u0,u1,.pointer (some ⟨gw,0,none⟩),.pointer (some ⟨ga,0,none⟩),.pointer (some ⟨gr,0,none⟩),.pointer (some ⟨gm,0,none⟩),u6,u7,u8,u9,nN,lV,lW,kK,kL,kM,kN,lX,kO,kP,kQ,kR,kS,kT,kU,kV,kX,kY,lB,lC,lD,lE,lF,lH,lI,lJ,lK,mS,oM,oN,oO,oP,oQ,oR,oS,oT,oU,oV,oW,oX,oY,oZ,pB,pC,pD,pE,pF,pG,pH,pI,pJ,pK,pL,pM,mT,pN,pO,pP,pQ,pR,pS,qM,qN,qO,qP,qQ,qR,qT,qU,qV,qW,qX,qY,qZ,rB,rC,rD,rE,rF,rG,rH,rI,rJ,rK,rL,rM,rN,rO,rZ,sB,gG,gH,gI,gJ],defers:=[]} W:=by
 obtain ⟨⟨bA,bn,bc⟩,⟨⟨xA,xn,xc⟩,⟨yA,yn,yc⟩⟩,⟨⟨⟨cA,cn,cd⟩,⟨dA,dn,dc⟩⟩,⟨sA,sn,sc⟩⟩,⟨zA,zn,zc⟩⟩:=Q;obtain ⟨ki,fr,tt,di,b,hd,cc,ds⟩:=M;have HF:=ħ h;clear h;have HWK:=ħ hR;have hRR:=ħ (And.intro hwn (And.intro hhn (And.intro hn1 (And.intro hn2 hid))));dsimp only [wW,bF,cL,dJ,Tryz.f48,Option.getD];refine wp_seq_k (fun K hK=>?_);have HK:=ħ hK;clear hK;have q0:=HF.out.hm.box.2 0 _ rfl;have hml:=HF.out.hm.lt;have hp:=HF.out.hw.box.2 7 _ rfl;have hwl:=HF.out.hw.lt;by_cases h1:ki=7
 · subst h1;by_cases h2:0<P.he.n
   · have h3:decide ((0:Int)<(P.he.n:Int))=true:=by simpa using h2
     go_upto_region 12 with fail
     clear q0 hml hp hwl h3;obtain ⟨rb,roff,hrA,hrb,hrc⟩:=HWK.out.he.2.2 y2;have hlen:D.he.length=P.he.n:=HWK.out.he.1;have hgwl:=HF.out.hw.lt;have hgwm:gw≠gm:=by have:=HF.out.g1;omega
     have hgam:ga≠gm:=by have:=HF.out.g2;omega
     obtain ⟨S,hSd⟩:∃S:World→Prop,S=fun Q=>But W.heap.size gm W Q:=⟨_,rfl⟩;have hS1:∀Q,S Q→Q.cell? ⟨gw,7,none⟩=some (.slice (some ⟨rb,roff,none⟩) P.he.n P.he.c):=fun Q h=>by rw [hSd] at h;exact (But.cell h hgwl hgwm).trans ((HF.out.hw.box.2 7 _ rfl).trans (by rw [hrA]))
     have hS2:∀Q,S Q→Q.cell? ⟨ga,1,none⟩=some (.int .i64 ad):=fun Q h=>by rw [hSd] at h;exact (But.cell h HF.out.hal hgam).trans HF.out.ha
     have hSc:∀Q,S Q→∀j,j<P.he.n→Q.cell? ⟨rb,roff+j*4,none⟩=some (.int .i64 ((hth D.he j).di)):=fun Q h j hj=>by
      rw [hSd] at h;obtain ⟨u1,u2,u3,⟨e0,_⟩,_⟩:=hrc j hj;exact (But.cell h (by have:=HF.out.hb.size;omega) (by have:=HF.out.g3;have:=HF.out.g4;omega)).trans ((HF.out.hb.cell (p:=⟨rb,roff+j*4,none⟩) hrb).trans e0)
     have hS:∀Q,Below W W Q→S Q:=fun Q hQ=>by rw [hSd];exact But.of_below hQ
     have hS8:∀Q o u,S Q→S (Q.setCell ⟨gm,o,none⟩ u):=fun Q o u hQ=>by rw [hSd] at hQ ⊢;exact hQ.setg
     have hnn:P.he.n≤1000000:=by rw [←hlen];exact hRR.out.2.1
     clear hSd hrc hlen;have hbd:=bdr W;refine wp_region_held_drew (S:=S) y8 (hS _ hbd) (fun hHeld=>?_);have hZ:=hHeld;generalize W.drew=Z at *;refine tk 0 90 ?_;refine tq 1 91 hS1 ?_;refine tk 2 92 ?_;refine tq 3 93 hS2 ?_;refine tk 4 94 ?_;refine tq 5 95 hS1 ?_;refine tk 6 96 ?_;refine ry 7 fun K hK=>?_;go_simp;(go_at_call 40;refine (xC ad P.he.n _ y2 y2).mono ?_;rintro e w' ⟨⟨k0,rfl,hk0⟩,rfl⟩;replace hk0:k0<P.he.n:=by omega)
     have hk1:(k0:Int)<(P.he.n:Int):=by omega
     refine hk hK (y75) fun hHeld=>?_;clear hK K;refine tk 8 98 ?_;refine tk 9 99 ?_
     (refine bW 10 (some 100) (v:=?_) rfl rfl ?_ ?_;rotate_left;(focus (intro wq hSw;have q1:=hSc wq hSw k0 hk0;clear hSw;go_simp;all_goals (with_reducible rfl)));simp only [lz])
     refine ry 11 fun K hK=>?_;go_simp;refine nm Z.heap.size fun NA hNA=>?_;obtain ⟨ZA,hZA⟩:∃Zq:World,Zq=Z.alloc (.cells #[.int .i64 (hth D.he k0).di] 3):=⟨_,rfl⟩;rw [←hNA,← hZA];have hkA:Blk ZA NA 3 [.int .i64 (hth D.he k0).di]:=by rw [hZA,hNA];exact Blk.new _ 3 [.int .i64 (hth D.he k0).di]
     have hbA:Below W W ZA:=by rw [hZA];exact aA hbd (aB (Below.refl _ _))
     have hNA2:w.heap.size≤NA:=by rw [hNA];exact Nat.le_trans HF.out.hb.size hbd.size
     clear hNA hZA;refine hk hK (hS _ hbA) fun hHeld=>?_;clear hK K;refine tk 12 102 ?_;refine ry 13 fun K hK=>?_;have HFZ:=HF.out.up (hbA);have qm:=HFZ.hm;have qf:=qm.frozen 17;have q9:=qm.box.2 17 _ rfl;have ql:=qm.lt;go_simp;clear qm qf q9 ql;have HF2:=ħ (HFZ.set (o:=17) (u:=.slice (some ⟨NA,0,none⟩) 1 1) (Q':=⟨⟨bA,bn,bc⟩,⟨⟨xA,xn,xc⟩,⟨yA,yn,yc⟩⟩,⟨⟨⟨cA,cn,cd⟩,⟨dA,dn,dc⟩⟩,⟨sA,sn,sc⟩⟩,⟨some ⟨NA,0,none⟩,1,1⟩⟩) (M':=⟨7,fr,tt,di,b,hd,cc,[(hth D.he k0).di]⟩) rfl ⟨HFZ.ho.b,HFZ.ho.h1,HFZ.ho.h2,HFZ.ho.c1,HFZ.ho.c2,HFZ.ho.c3,iG hkA hNA2⟩ ⟨HFZ.mil.b,HFZ.mil.h1,HFZ.mil.h2,HFZ.mil.c1,HFZ.mil.c2,HFZ.mil.c3,by simp⟩);refine hk hK (hS8 _ 17 _ (hS _ (hbA))) fun hHeld=>?_;clear hK K;refine wz ?_;go_wp2_with fail
     show K _ _;apply HK.out;exact FF w _ gw ga gm gr P D ad _ _ HF2.out
   · have h3:decide ((0:Int)<(P.he.n:Int))=false:=by simpa using h2
     have h4:P.he.n=0:=by omega
     clear h4;go_wp2_with fail
     show K _ _;apply HK.out;exact FF w _ gw ga gm gr P D ad _ _ HF.out
 · have h3:(ki == 7)=false:=by simpa using h1
   go_wp2_with fail
   show K _ _;apply HK.out;exact FF w _ gw ga gm gr P D ad _ _ HF.out
theorem I1 (w W:World) (gw ga gm gr:Nat) (P:aF) (D:aD) (ad:Int) (Q:bQ) (M:aY) {u0 u1 u6 u7 u8 u9 nN lV lW kK kL kM kN lX kO kP kQ kR kS kT kU kV kX kY lB lC lD lE lF lH lI lJ lK mS oM oN oO oP oQ oR oS oT oU oV oW oX oY oZ pB pC pD pE pF pG pH pI pJ pK pL pM mT pN pO pP pQ pR pS qM qN qO qP qQ qR qT qU qV qW qX qY qZ rB rC rD rE rF rG rH rI rJ rK rL rM rN rO rZ sB gG gH gI gJ:Value} (h:wM w W gw ga gm gr P D ad Q M) (hR:bG w P D) (hwn:D.wa.length≤1000000) (hhn:D.he.length≤1000000) (hn1:2≤D.nodes) (hn2:D.nodes≤1000) (hid:1≤D.id∧D.id≤1000):Code.wp prog (wW 6) (bodyPost prog Tryz.f48 (fun e w'=>∃Q' M',e=.returned (M18 Q' M')∧M'.ki=M.ki∧dS w' w.heap.size Q' M'∧iA M'∧Below w w w')) {tmps:=#[u0,u1,.pointer (some ⟨gw,0,none⟩),.pointer (some ⟨ga,0,none⟩),.pointer (some ⟨gr,0,none⟩),.pointer (some ⟨gm,0,none⟩),u6,u7,u8,u9,nN,lV,lW,kK,kL,kM,kN,lX,kO,kP,kQ,kR,kS,kT,kU,kV,kX,kY,lB,lC,lD,lE,lF,lH,lI,lJ,lK,mS,oM,oN,oO,oP,oQ,oR,oS,oT,oU,oV,oW,oX,oY,oZ,pB,pC,pD,pE,pF,pG,pH,pI,pJ,pK,pL,pM,mT,pN,pO,pP,pQ,pR,pS,qM,qN,qO,qP,qQ,qR,qT,qU,qV,qW,qX,qY,qZ,rB,rC,rD,rE,rF,rG,rH,rI,rJ,rK,rL,rM,rN,rO,rZ,sB,gG,gH,gI,gJ],defers:=[]} W:=by
 obtain ⟨⟨bA,bn,bc⟩,⟨⟨xA,xn,xc⟩,⟨yA,yn,yc⟩⟩,⟨⟨⟨cA,cn,cd⟩,⟨dA,dn,dc⟩⟩,⟨sA,sn,sc⟩⟩,⟨zA,zn,zc⟩⟩:=Q;obtain ⟨ki,fr,tt,di,b,hd,cc,ds⟩:=M;have HF:=ħ h;clear h;have HWK:=ħ hR;have hRR:=ħ (And.intro hwn (And.intro hhn (And.intro hn1 (And.intro hn2 hid))));dsimp only [wW,bF,cL,dJ,Tryz.f48,Option.getD];refine wp_seq_k (fun K hK=>?_);have HK:=ħ hK;clear hK;have q0:=HF.out.hm.box.2 0 _ rfl;have hml:=HF.out.hm.lt;have hp:=HF.out.hw.box.2 6 _ rfl;have hwl:=HF.out.hw.lt;by_cases h1:ki=2
 · subst h1;by_cases h2:0<P.wa.n
   · have h3:decide ((0:Int)<(P.wa.n:Int))=true:=by simpa using h2
     go_upto_region 10 with fail
     clear q0 hml hp hwl h3;obtain ⟨rb,roff,hrA,hrb,hrc⟩:=HWK.out.wa.2.2 y2;have hlen:D.wa.length=P.wa.n:=HWK.out.wa.1;have hgwl:=HF.out.hw.lt;have hgwm:gw≠gm:=by have:=HF.out.g1;omega
     have hgam:ga≠gm:=by have:=HF.out.g2;omega
     obtain ⟨S,hSd⟩:∃S:World→Prop,S=fun Q=>But W.heap.size gm W Q:=⟨_,rfl⟩;have hS1:∀Q,S Q→Q.cell? ⟨gw,6,none⟩=some (.slice (some ⟨rb,roff,none⟩) P.wa.n P.wa.c):=fun Q h=>by rw [hSd] at h;exact (But.cell h hgwl hgwm).trans ((HF.out.hw.box.2 6 _ rfl).trans (by rw [hrA]))
     have hS2:∀Q,S Q→Q.cell? ⟨ga,1,none⟩=some (.int .i64 ad):=fun Q h=>by rw [hSd] at h;exact (But.cell h HF.out.hal hgam).trans HF.out.ha
     have hSc:∀Q,S Q→∀j,j<P.wa.n→Q.cell? ⟨rb,roff+j*2,none⟩=some (.int .i64 ((wth D.wa j).di)):=fun Q h j hj=>by
      rw [hSd] at h;obtain ⟨u1,u2,u3,⟨e0,_⟩,_⟩:=hrc j hj;exact (But.cell h (by have:=HF.out.hb.size;omega) (by have:=HF.out.g3;have:=HF.out.g4;omega)).trans ((HF.out.hb.cell (p:=⟨rb,roff+j*2,none⟩) hrb).trans e0)
     have hS:∀Q,Below W W Q→S Q:=fun Q hQ=>by rw [hSd];exact But.of_below hQ
     have hS8:∀Q o u,S Q→S (Q.setCell ⟨gm,o,none⟩ u):=fun Q o u hQ=>by rw [hSd] at hQ ⊢;exact hQ.setg
     have hnn:P.wa.n≤1000000:=by rw [←hlen];exact hRR.out.1
     clear hSd hrc hlen;have hbd:=bdr W;refine wp_region_held_drew (S:=S) y8 (hS _ hbd) (fun hHeld=>?_);have hZ:=hHeld;generalize W.drew=Z at *;refine tk 0 69 ?_;refine tq 1 70 hS1 ?_;refine tk 2 71 ?_;refine tq 3 72 hS2 ?_;refine tk 4 73 ?_;refine tq 5 74 hS1 ?_;refine tk 6 75 ?_;refine ry 7 fun K hK=>?_;go_simp;(go_at_call 40;refine (xC ad P.wa.n _ y2 y2).mono ?_;rintro e w' ⟨⟨k0,rfl,hk0⟩,rfl⟩;replace hk0:k0<P.wa.n:=by omega)
     have hk1:(k0:Int)<(P.wa.n:Int):=by omega
     refine hk hK (y75) fun hHeld=>?_;clear hK K;refine tk 8 77 ?_;refine tk 9 78 ?_
     (refine bW 10 (some 79) (v:=?_) rfl rfl ?_ ?_;rotate_left;(focus (intro wq hSw;have q1:=hSc wq hSw k0 hk0;clear hSw;go_simp;all_goals (with_reducible rfl)));simp only [lz])
     refine tk 11 80 ?_;refine ry 12 fun K hK=>?_;have HFZ:=HF.out.up (hbd);have qm:=HFZ.hm;have qf:=qm.frozen 3;have q9:=qm.box.2 3 _ rfl;have ql:=qm.lt;go_simp;clear qm qf q9 ql;have HF2:=ħ (HFZ.set (o:=3) (u:=.int .i64 (wth D.wa k0).di) (Q':=⟨⟨bA,bn,bc⟩,⟨⟨xA,xn,xc⟩,⟨yA,yn,yc⟩⟩,⟨⟨⟨cA,cn,cd⟩,⟨dA,dn,dc⟩⟩,⟨sA,sn,sc⟩⟩,⟨zA,zn,zc⟩⟩) (M':=⟨2,fr,tt,(wth D.wa k0).di,b,hd,cc,ds⟩) rfl ⟨HFZ.ho.b,HFZ.ho.h1,HFZ.ho.h2,HFZ.ho.c1,HFZ.ho.c2,HFZ.ho.c3,HFZ.ho.ds⟩ ⟨HFZ.mil.b,HFZ.mil.h1,HFZ.mil.h2,HFZ.mil.c1,HFZ.mil.c2,HFZ.mil.c3,HFZ.mil.ds⟩);refine hk hK (hS8 _ 3 _ (hS _ (hbd))) fun hHeld=>?_;clear hK K;refine wz ?_;go_wp2_with fail
     show K _ _;apply HK.out;exact FE w _ gw ga gm gr P D ad _ _ HF2.out HWK.out hRR.out.1 hRR.out.2.1 hRR.out.2.2.1 hRR.out.2.2.2.1 hRR.out.2.2.2.2
   · have h3:decide ((0:Int)<(P.wa.n:Int))=false:=by simpa using h2
     have h4:P.wa.n=0:=by omega
     clear h4;go_wp2_with fail
     show K _ _;apply HK.out;exact FE w _ gw ga gm gr P D ad _ _ HF.out HWK.out hRR.out.1 hRR.out.2.1 hRR.out.2.2.1 hRR.out.2.2.2.1 hRR.out.2.2.2.2
 · have h3:(ki == 2)=false:=by simpa using h1
   go_wp2_with fail
   show K _ _;apply HK.out;exact FE w _ gw ga gm gr P D ad _ _ HF.out HWK.out hRR.out.1 hRR.out.2.1 hRR.out.2.2.1 hRR.out.2.2.2.1 hRR.out.2.2.2.2
theorem Ex (w W:World) (gw ga gm gr:Nat) (P:aF) (D:aD) (ad:Int) (Q:bQ) (M:aY) {u0 u1 u6 u7 u8 u9 nN lV lW kK kL kM kN lX kO kP kQ kR kS kT kU kV kX kY lB lC lD lE lF lH lI lJ lK mS oM oN oO oP oQ oR oS oT oU oV oW oX oY oZ pB pC pD pE pF pG pH pI pJ pK pL pM mT pN pO pP pQ pR pS qM qN qO qP qQ qR qT qU qV qW qX qY qZ rB rC rD rE rF rG rH rI rJ rK rL rM rN rO rZ sB gG gH gI gJ:Value} (h:wM w W gw ga gm gr P D ad Q M) (hR:bG w P D) (hwn:D.wa.length≤1000000) (hhn:D.he.length≤1000000) (hn1:2≤D.nodes) (hn2:D.nodes≤1000) (hid:1≤D.id∧D.id≤1000):Code.wp prog (wW 5) (bodyPost prog Tryz.f48 (fun e w'=>∃Q' M',e=.returned (M18 Q' M')∧M'.ki=M.ki∧dS w' w.heap.size Q' M'∧iA M'∧Below w w w')) {tmps:=#[u0,u1,.pointer (some ⟨gw,0,none⟩),.pointer (some ⟨ga,0,none⟩),.pointer (some ⟨gr,0,none⟩),.pointer (some ⟨gm,0,none⟩),u6,u7,u8,u9,nN,lV,lW,kK,kL,kM,kN,lX,kO,kP,kQ,kR,kS,kT,kU,kV,kX,kY,lB,lC,lD,lE,lF,lH,lI,lJ,lK,mS,oM,oN,oO,oP,oQ,oR,oS,oT,oU,oV,oW,oX,oY,oZ,pB,pC,pD,pE,pF,pG,pH,pI,pJ,pK,pL,pM,mT,pN,pO,pP,pQ,pR,pS,qM,qN,qO,qP,qQ,qR,qT,qU,qV,qW,qX,qY,qZ,rB,rC,rD,rE,rF,rG,rH,rI,rJ,rK,rL,rM,rN,rO,rZ,sB,gG,gH,gI,gJ],defers:=[]} W:=by
 obtain ⟨⟨bA,bn,bc⟩,⟨⟨xA,xn,xc⟩,⟨yA,yn,yc⟩⟩,⟨⟨⟨cA,cn,cd⟩,⟨dA,dn,dc⟩⟩,⟨sA,sn,sc⟩⟩,⟨zA,zn,zc⟩⟩:=Q;obtain ⟨ki,fr,tt,di,b,hd,cc,ds⟩:=M;have HF:=ħ h;clear h;have HWK:=ħ hR;have hRR:=ħ (And.intro hwn (And.intro hhn (And.intro hn1 (And.intro hn2 hid))));dsimp only [wW,bF,cL,dJ,Tryz.f48,Option.getD];refine wp_seq_k (fun K hK=>?_);have HK:=ħ hK;clear hK;obtain ⟨pa,pn,ptx⟩:=b;have q1:=HF.out.hm.box.2 1 _ rfl;have q4:=HF.out.hm.box.2 4 _ rfl;have hml:=HF.out.hm.lt;have f4:=HF.out.hm.frozen 4;have p1:=HF.out.hw.box.2 1 _ rfl;have hwl:=HF.out.hw.lt;by_cases h1:D.nodes<pa
 · have h2:decide (D.nodes<pa)=true:=decide_eq_true h1;go_wp2_with fail
   have HF2:=HF.out.set (o:=4) (u:=.int .i64 fr) (Q':=⟨⟨bA,bn,bc⟩,⟨⟨xA,xn,xc⟩,⟨yA,yn,yc⟩⟩,⟨⟨⟨cA,cn,cd⟩,⟨dA,dn,dc⟩⟩,⟨sA,sn,sc⟩⟩,⟨zA,zn,zc⟩⟩) (M':=⟨ki,fr,tt,di,⟨fr,pn,ptx⟩,hd,cc,ds⟩) rfl ⟨HF.out.ho.b,HF.out.ho.h1,HF.out.ho.h2,HF.out.ho.c1,HF.out.ho.c2,HF.out.ho.c3,HF.out.ho.ds⟩ ⟨HF.out.mil.b,HF.out.mil.h1,HF.out.mil.h2,HF.out.mil.c1,HF.out.mil.c2,HF.out.mil.c3,HF.out.mil.ds⟩;show K _ _;apply HK.out;exact I1 w _ gw ga gm gr P D ad _ _ HF2 HWK.out hRR.out.1 hRR.out.2.1 hRR.out.2.2.1 hRR.out.2.2.2.1 hRR.out.2.2.2.2
 · have h2:decide (D.nodes<pa)=false:=decide_eq_false h1;go_wp2_with fail
   show K _ _;apply HK.out;exact I1 w _ gw ga gm gr P D ad _ _ HF.out HWK.out hRR.out.1 hRR.out.2.1 hRR.out.2.2.1 hRR.out.2.2.2.1 hRR.out.2.2.2.2
theorem Jz (w W:World) (gw ga gm gr:Nat) (P:aF) (D:aD) (ad:Int) (Q:bQ) (M:aY) {u0 u1 u6 u7 u8 u9 nN lV lW kK kL kM kN lX kO kP kQ kR kS kT kU kV kX kY lB lC lD lE lF lH lI lJ lK mS oM oN oO oP oQ oR oS oT oU oV oW oX oY oZ pB pC pD pE pF pG pH pI pJ pK pL pM mT pN pO pP pQ pR pS qM qN qO qP qQ qR qT qU qV qW qX qY qZ rB rC rD rE rF rG rH rI rJ rK rL rM rN rO rZ sB gG gH gI gJ:Value} (h:wM w W gw ga gm gr P D ad Q M) (hR:bG w P D) (hwn:D.wa.length≤1000000) (hhn:D.he.length≤1000000) (hn1:2≤D.nodes) (hn2:D.nodes≤1000) (hid:1≤D.id∧D.id≤1000):Code.wp prog (wW 4) (bodyPost prog Tryz.f48 (fun e w'=>∃Q' M',e=.returned (M18 Q' M')∧M'.ki=M.ki∧dS w' w.heap.size Q' M'∧iA M'∧Below w w w')) {tmps:=#[u0,u1,.pointer (some ⟨gw,0,none⟩),.pointer (some ⟨ga,0,none⟩),.pointer (some ⟨gr,0,none⟩),.pointer (some ⟨gm,0,none⟩),u6,u7,u8,u9,nN,lV,lW,kK,kL,kM,kN,lX,kO,kP,kQ,kR,kS,kT,kU,kV,kX,kY,lB,lC,lD,lE,lF,lH,lI,lJ,lK,mS,oM,oN,oO,oP,oQ,oR,oS,oT,oU,oV,oW,oX,oY,oZ,pB,pC,pD,pE,pF,pG,pH,pI,pJ,pK,pL,pM,mT,pN,pO,pP,pQ,pR,pS,qM,qN,qO,qP,qQ,qR,qT,qU,qV,qW,qX,qY,qZ,rB,rC,rD,rE,rF,rG,rH,rI,rJ,rK,rL,rM,rN,rO,rZ,sB,gG,gH,gI,gJ],defers:=[]} W:=by
 obtain ⟨⟨bA,bn,bc⟩,⟨⟨xA,xn,xc⟩,⟨yA,yn,yc⟩⟩,⟨⟨⟨cA,cn,cd⟩,⟨dA,dn,dc⟩⟩,⟨sA,sn,sc⟩⟩,⟨zA,zn,zc⟩⟩:=Q;obtain ⟨ki,fr,tt,di,b,hd,cc,ds⟩:=M;have HF:=ħ h;clear h;have HWK:=ħ hR;have hRR:=ħ (And.intro hwn (And.intro hhn (And.intro hn1 (And.intro hn2 hid))));dsimp only [wW,bF,cL,dJ,Tryz.f48,Option.getD];refine wp_seq_k (fun K hK=>?_);have HK:=ħ hK;clear hK;have q1:=HF.out.hm.box.2 1 _ rfl;have hml:=HF.out.hm.lt;have p1:=HF.out.hw.box.2 1 _ rfl;have p0:=HF.out.hw.box.2 0 _ rfl;have hwl:=HF.out.hw.lt;by_cases h1:fr<1
 · have h2:decide (fr<1)=true:=decide_eq_true h1;go_upto_region 6 with fail
   have hid0:=hRR.out.2.2.2.2.1;have hn2:=hRR.out.2.2.1;have hn9:=hRR.out.2.2.2.1;have hnz:¬D.nodes=0:=by omega
   have hnz2:(D.nodes == 0)=false:=by simpa using hnz
   have f1:=HF.out.hm.frozen 1;go_wp2_with fail
   show K _ _;apply HK.out;exact Ex w _ gw ga gm gr P D ad ⟨⟨bA,bn,bc⟩,⟨⟨xA,xn,xc⟩,⟨yA,yn,yc⟩⟩,⟨⟨⟨cA,cn,cd⟩,⟨dA,dn,dc⟩⟩,⟨sA,sn,sc⟩⟩,⟨zA,zn,zc⟩⟩ ⟨ki,wrap64 (D.id % D.nodes+1),tt,di,b,hd,cc,ds⟩ (HF.out.set (o:=1) (u:=.int .i64 (wrap64 (D.id % D.nodes+1))) rfl ⟨HF.out.ho.b,HF.out.ho.h1,HF.out.ho.h2,HF.out.ho.c1,HF.out.ho.c2,HF.out.ho.c3,HF.out.ho.ds⟩ ⟨HF.out.mil.b,HF.out.mil.h1,HF.out.mil.h2,HF.out.mil.c1,HF.out.mil.c2,HF.out.mil.c3,HF.out.mil.ds⟩) HWK.out hRR.out.1 hRR.out.2.1 hRR.out.2.2.1 hRR.out.2.2.2.1 hRR.out.2.2.2.2
 · have h2:decide (fr<1)=false:=decide_eq_false h1;by_cases h3:D.nodes<fr
   · have h4:decide (D.nodes<fr)=true:=decide_eq_true h3;go_upto_region 6 with fail
     have hid0:=hRR.out.2.2.2.2.1;have hn2:=hRR.out.2.2.1;have hn9:=hRR.out.2.2.2.1;have hnz:¬D.nodes=0:=by omega
     have hnz2:(D.nodes == 0)=false:=by simpa using hnz
     have f1:=HF.out.hm.frozen 1;go_wp2_with fail
     show K _ _;apply HK.out;exact Ex w _ gw ga gm gr P D ad ⟨⟨bA,bn,bc⟩,⟨⟨xA,xn,xc⟩,⟨yA,yn,yc⟩⟩,⟨⟨⟨cA,cn,cd⟩,⟨dA,dn,dc⟩⟩,⟨sA,sn,sc⟩⟩,⟨zA,zn,zc⟩⟩ ⟨ki,wrap64 (D.id % D.nodes+1),tt,di,b,hd,cc,ds⟩ (HF.out.set (o:=1) (u:=.int .i64 (wrap64 (D.id % D.nodes+1))) rfl ⟨HF.out.ho.b,HF.out.ho.h1,HF.out.ho.h2,HF.out.ho.c1,HF.out.ho.c2,HF.out.ho.c3,HF.out.ho.ds⟩ ⟨HF.out.mil.b,HF.out.mil.h1,HF.out.mil.h2,HF.out.mil.c1,HF.out.mil.c2,HF.out.mil.c3,HF.out.mil.ds⟩) HWK.out hRR.out.1 hRR.out.2.1 hRR.out.2.2.1 hRR.out.2.2.2.1 hRR.out.2.2.2.2
   · have h4:decide (D.nodes<fr)=false:=decide_eq_false h3;by_cases h5:fr=D.id
     · have h6:(fr == D.id)=true:=by simpa using h5
       go_upto_region 6 with fail
       have hid0:=hRR.out.2.2.2.2.1;have hn2:=hRR.out.2.2.1;have hn9:=hRR.out.2.2.2.1;have hnz:¬D.nodes=0:=by omega
       have hnz2:(D.nodes == 0)=false:=by simpa using hnz
       have f1:=HF.out.hm.frozen 1;go_wp2_with fail
       show K _ _;apply HK.out;exact Ex w _ gw ga gm gr P D ad ⟨⟨bA,bn,bc⟩,⟨⟨xA,xn,xc⟩,⟨yA,yn,yc⟩⟩,⟨⟨⟨cA,cn,cd⟩,⟨dA,dn,dc⟩⟩,⟨sA,sn,sc⟩⟩,⟨zA,zn,zc⟩⟩ ⟨ki,wrap64 (D.id % D.nodes+1),tt,di,b,hd,cc,ds⟩ (HF.out.set (o:=1) (u:=.int .i64 (wrap64 (D.id % D.nodes+1))) rfl ⟨HF.out.ho.b,HF.out.ho.h1,HF.out.ho.h2,HF.out.ho.c1,HF.out.ho.c2,HF.out.ho.c3,HF.out.ho.ds⟩ ⟨HF.out.mil.b,HF.out.mil.h1,HF.out.mil.h2,HF.out.mil.c1,HF.out.mil.c2,HF.out.mil.c3,HF.out.mil.ds⟩) HWK.out hRR.out.1 hRR.out.2.1 hRR.out.2.2.1 hRR.out.2.2.2.1 hRR.out.2.2.2.2
     · have h6:(fr == D.id)=false:=by simpa using h5
       go_wp2_with fail
       show K _ _;apply HK.out;exact Ex w _ gw ga gm gr P D ad _ _ HF.out HWK.out hRR.out.1 hRR.out.2.1 hRR.out.2.2.1 hRR.out.2.2.2.1 hRR.out.2.2.2.2
end Go.Proofs.YtgfakefcmbpboaaGreat
