/- Part 38 of what WorkerExact leans on. No conditions. -/
import Derived.Test.YtgfakefcmbpboaaGreatV35
import Derived.Test.YtgfakefcmbpboaaGreatV36
import Derived.Test.YtgfakefcmbpboaaGreatV37
namespace Go.Proofs.YtgfakefcmbpboaaGreat
set_option linter.all false
set_option maxRecDepth 100000
set_option maxHeartbeats 64000000
open _root_.Go.Proofs.Tryz Go.RowKit
open Tok
def jC (k:Int):Prop:=k=1∨k=2∨k=3∨k=7
theorem eO.lens {w:World} {P:bQ} {M:aY} (h:eO w P M):M.b.tx.length=P.b.n∧M.h.ba.length=P.h.b.n∧M.h.pa.length=P.h.p.n∧M.c.h.ba.length=P.c.h.b.n∧M.c.h.pa.length=P.c.h.p.n∧M.c.si.length=P.c.s.n∧M.ds.length=P.ds.n:=
 ⟨h.tx.1,h.h.1.1,h.h.2.1,h.c.1.1.1,h.c.1.2.1,h.c.2.1,h.ds.1⟩
theorem FP {w v:World} {P Q:bQ} {M O:aY} (h:eO w P M) (hq:eO v Q O) (h0:O.ki=M.ki∧O.fr=M.fr∧O.tt=M.tt) (t1:O.b.tx=M.b.tx∨O.b.tx=[]) (t2:O.h.ba=M.h.ba∨O.h.ba=[]) (t3:O.h.pa=M.h.pa∨O.h.pa=[]) (t4:O.c.h.ba=M.c.h.ba∨O.c.h.ba=[]) (t5:O.c.h.pa=M.c.h.pa∨O.c.h.pa=[]) (t6:O.c.si=M.c.si∨O.c.si=[]) (t7:O.ds=M.ds∨O.ds=[]):Jl P Q M O↔O=M:=by
 obtain ⟨p1,p2,p3,p4,p5,p6,p7⟩:=h.lens;obtain ⟨r1,r2,r3,r4,r5,r6,r7⟩:=hq.lens;obtain ⟨ki,fr,tt,di,⟨pa,pn,ptx⟩,⟨ha,hr,hba,hpa⟩,⟨⟨ca,cr,cba,cpa⟩,cdi,csi⟩,ds⟩:=M;obtain ⟨ki',fr',tt',di',⟨pa',pn',ptx'⟩,⟨ha',hr',hba',hpa'⟩,⟨⟨ca',cr',cba',cpa'⟩,cdi',csi'⟩,ds'⟩:=O;dsimp only at *;obtain ⟨rfl,rfl,rfl⟩:=h0;unfold Jl FI;dsimp only;constructor
 · rintro ⟨rfl,rfl,rfl,g4,⟨rfl,rfl,g5,g6⟩,⟨rfl,rfl,g7,g8⟩,rfl,g9,g10⟩
   have same:∀{α:Type} {a b:List α},(b=a∨b=[])→a.length=b.length→b=a:=fun h e=>by
    rcases h with h|h
    · exact h
    · subst h;exact (List.eq_nil_of_length_eq_zero (by simpa using e)).symm
   have e1:=same t1 (by rw [p1,r1,g4]);have e2:=same t2 (by rw [p2,r2,g5]);have e3:=same t3 (by rw [p3,r3,g6]);have e4:=same t4 (by rw [p4,r4,g7]);have e5:=same t5 (by rw [p5,r5,g8]);have e6:=same t6 (by rw [p6,r6,g9]);have e7:=same t7 (by rw [p7,r7,g10]);rw [e1,e2,e3,e4,e5,e6,e7]
 · intro e;injection e with _ _ _ e4 e5 e6 e7 e8;injection e5 with e51 e52 e53;injection e6 with e61 e62 e63 e64;injection e7 with e71 e72 e73;injection e71 with e711 e712 e713 e714;subst e4 e51 e52 e53 e61 e62 e63 e64 e72 e73 e711 e712 e713 e714 e8;exact ⟨rfl,rfl,rfl,by rw [←p1,← r1],⟨rfl,rfl,by rw [←p2,← r2],by rw [←p3,← r3]⟩,⟨rfl,rfl,by rw [←p4,← r4],by rw [←p5,← r5]⟩,rfl,by rw [←p6,← r6],by rw [←p7,← r7]⟩
theorem Dd {M:aY} {n:Int} {y:Bool} (hh:¬hdM M n) (hy:kI M n=y):y=false:=by
 cases y
 · rfl
 · exact absurd ((xG hy).1 rfl).1 hh
theorem EC {M:aY} {n:Int} {y:Bool} (hh:hdM M n) (hy:kI M n=y):y=true↔dec (okM M n)=true∧eB M=M:=by
 rw [xG hy,bJ];exact ⟨fun g=>g.2,fun g=>⟨hh,g⟩⟩
theorem pZ (P:bQ) (M:aY) (n:Int) (y:Bool) (w:World) (h:eO w P M) (hy:kI M n=y) :
 Calls prog 94 #[M18 P M,n] w fun e w'=>e=.returned (.bool y)∧Below w w w':=by
 by_cases hh:hdM M n
 · refine AW P (jX P M) M (eB M) n (dec (okM M n)) y w hh (fun u hu=>Cj P _ M _ n _ u (h.up hu) rfl rfl rfl) ?_;obtain ⟨a1,a2,a3,t1,t2,t3,t4,t5,t6,t7⟩:=FR M;rw [FP h (I5 h) ⟨a1,a2,a3⟩ t1 t2 t3 t4 t5 t6 t7];exact EC hh hy
 · rw [Dd hh hy];exact zW P M n w h hh
theorem nJ (P:bQ) (M:aY) (n:Int) (y:Bool) (w:World) (h:eO w P M) (hy:kI M n=y) :
 Calls prog 90 #[M18 P M,n] w fun e w'=>e=.returned (.bool y)∧Below w w w':=by
 by_cases hh:hdM M n
 · exact Cs P _ M _ n _ y w h rfl rfl hh rfl (EC hh hy)
 · rw [Dd hh hy];exact yH P M n w h hh
structure pU (k:Int):Prop where
 in4:jC k
theorem Ci (P:bQ) (M:aY) (n:Int) (y:Bool) (w:World) (h:eO w P M) (hk:pU M.ki) (hy:kI M n=y) :
 Calls prog 94 #[M18 P M,n] w fun e w'=>e=.returned (.bool y)∧Below w w w':=pZ P M n y w h hy
theorem nI (P:bQ) (M:aY) (n:Int) (y:Bool) (w:World) (h:eO w P M) (hk:pU M.ki) (hy:kI M n=y) :
 Calls prog 90 #[M18 P M,n] w fun e w'=>e=.returned (.bool y)∧Below w w w':=nJ P M n y w h hy
noncomputable def zJ (D:aD) (M:aY):Int:=if dZ D=true∧kI M D.nodes=true∧M.tt=D.id then (if M.ki=1∨M.ki=2∨M.ki=3∨M.ki=7 then 0 else 10) else 1
theorem F9 {D:aD} {M:aY} (h:¬(dZ D=true∧kI M D.nodes=true∧M.tt=D.id∧jC M.ki)):zJ D M≠0:=by
 unfold zJ;split
 · rename_i g;rw [if_neg (show ¬(M.ki=1∨M.ki=2∨M.ki=3∨M.ki=7) from fun g2=>h ⟨g.1,g.2.1,g.2.2,g2⟩)]
   decide
 · decide
noncomputable def Cd:Code:=bF 4 (Tryz.f96.body.getD .skip)
theorem jV {K:Act→World→Prop} {Ψ:Ending→World→Prop} (gr gs:Nat) (id nodes next age clock:Int) (oA tA eA rA uA:Option Addr) (on oc tn tc en ec rn rc un uc:Nat) (W:World) {u0 u1 u2 u3 u5 u7 u8 u9 nN lV lW kK kL kM kN lX kO kP kQ kR kS kT kU kV kX kY lB lC lD lE lF lH lI lJ lK mS oM oN oO oP oQ oR oS oT oU oV oW oX oY oZ pB pC pD pE pF pG pH pI pJ pK pL pM mT pN pO pP pQ pR pS qM qN qO qP qQ qR qT qU qV qW qX qY qZ rB rC rD rE rF rG rH rI rJ rK rL rM rN rO rZ sB gG gH gI gJ mR nO nP nQ nR qG qH qI qJ qK qL:Value}
 (hK:∀a' w',Code.wp prog (cL Cd) (bodyPost prog Tryz.f96 Ψ) a' w'→K a' w') (hne:gs≠gr) (hg:Blk W gs 142 [id,nodes,next,.slice oA on oc,age,clock,.slice tA tn tc,.slice eA en ec,.slice rA rn rc,.slice uA un uc]) (hr:Blk W gr 27 cZ)
 (hΨ:∀W',aC 27 W W'→(∀n,n≤gr→Below n W W')→Ψ (.returned (.tuple #[.agg #[id,nodes,next,.slice oA on oc,age,clock,.slice tA tn tc,.slice eA en ec,.slice rA rn rc],.slice uA un uc])) W') :
 Code.wp prog (dJ Cd) (Exit.then K (bodyPost prog Tryz.f96 Ψ)) {tmps:=#[u0,u1,u2,u3,.pointer (some ⟨gr,0,none⟩),u5,.pointer (some ⟨gs,0,none⟩),u7,u8,u9,nN,lV,lW,kK,kL,kM,kN,lX,kO,kP,kQ,kR,kS,kT,kU,kV,kX,kY,lB,lC,lD,lE,lF,lH,lI,lJ,lK,mS,oM,oN,oO,oP,oQ,oR,oS,oT,oU,oV,oW,oX,oY,oZ,pB,pC,pD,pE,pF,pG,pH,pI,pJ,pK,pL,pM,mT,pN,pO,pP,pQ,pR,pS,qM,qN,qO,qP,qQ,qR,qT,qU,qV,qW,qX,qY,qZ,rB,rC,rD,rE,rF,rG,rH,rI,rJ,rK,rL,rM,rN,rO,rZ,sB,gG,gH,gI,gJ,mR,nO,nP,nQ,nR,qG,qH,qI,qJ,qK,qL],defers:=[]} W:=by
 have HK:=ħ hK;have HG:=ħ hg;have HR:=ħ hr;have HΨ:=ħ hΨ;clear hK hg hr hΨ;dsimp only [Cd,bF,cL,dJ,Tryz.f96,Option.getD];obtain ⟨S,hSd⟩:∃S:World→Prop,S=fun Q=>Blk Q gs 142 [id,nodes,next,.slice oA on oc,age,clock,.slice tA tn tc,.slice eA en ec,.slice rA rn rc,.slice uA un uc]:=⟨_,rfl⟩;have hS1:∀Q,S Q→Q.rangeAt gs 0 [id,nodes,next,.slice oA on oc,age,clock,.slice tA tn tc,.slice eA en ec,.slice rA rn rc]:=fun Q h=>by rw [hSd] at h;exact fun j v hv=>by have h9:Blk Q gs 142 ([.int .i64 id,.int .i64 nodes,.int .i64 next,.slice oA on oc,.int .i64 age,.int .i64 clock,.slice tA tn tc,.slice eA en ec,.slice rA rn rc] ++ [.slice uA un uc]):=h;have:=h9.box.2 j v ((List.getElem?_append_left ((List.getElem?_eq_some_iff.1 hv).1)).trans hv);rwa [Nat.zero_add]
 have hS3:∀Q,S Q→Q.cell? ⟨gs,9,none⟩=some (.slice uA un uc):=fun Q h=>by rw [hSd] at h;exact Blk.box h |>.2 9 _ rfl
 have hS5:∀Q,S Q→∀b0 b1 b2 b3 b4 b5 b6 b7 b8:Value,S (kA Q gr b0 b1 b2 b3 b4 b5 b6 b7 b8):=fun Q h b0 b1 b2 b3 b4 b5 b6 b7 b8=>by rw [hSd] at h ⊢;exact Blk.sets9 h hne b0 b1 b2 b3 b4 b5 b6 b7 b8
 have hZ0:S W.drew:=by rw [hSd];exact HG.out.up (aM (Below.refl _ _))
 clear hSd;have hbd:=bdr W;refine wp_region_held_drew (S:=S) y8 hZ0 (fun hHeld=>?_);have hZ:=hHeld;generalize W.drew=Z at *;refine tk 0 107 ?_;refine tk 1 108 ?_;refine tk 2 109 ?_;refine ld 3 110 hS1 underlying27 ?_;refine tk 4 111 ?_;refine tk 5 112 ?_;refine tk 6 113 ?_;refine tq 7 114 hS3 ?_;refine ry 8 fun K hK=>?_;have hVz:=HR.out.up hbd;have qf:=hVz.frozen;have ql:=hVz.lt;have h9:=hVz.box;obtain ⟨q0,q1,q2,q3,q4,q5,q6,q7,q8⟩:=bx9 h9;clear h9;go_simp;clear qf ql q0 q1 q2 q3 q4 q5 q6 q7 q8;have hW9:=gF hVz rfl (.int .i64 id) (.int .i64 nodes) (.int .i64 next) (.slice oA on oc) (.int .i64 age) (.int .i64 clock) (.slice tA tn tc) (.slice eA en ec) (.slice rA rn rc);have htz:=aC.sets9 hVz (.int .i64 id) (.int .i64 nodes) (.int .i64 next) (.slice oA on oc) (.int .i64 age) (.int .i64 clock) (.slice tA tn tc) (.slice eA en ec) (.slice rA rn rc);refine hk hK (hS5 _ hZ (.int .i64 id) (.int .i64 nodes) (.int .i64 next) (.slice oA on oc) (.int .i64 age) (.int .i64 clock) (.slice tA tn tc) (.slice eA en ec) (.slice rA rn rc)) fun hHeld=>?_;clear hK K;refine tk 9 5 ?_;refine wz ?_;have hbz:∀n,n≤gr→Below n W (((((((((Z.setCell ⟨gr,0,none⟩ id).setCell ⟨gr,1,none⟩ nodes).setCell ⟨gr,2,none⟩ next).setCell ⟨gr,3,none⟩ (.slice oA on oc)).setCell ⟨gr,4,none⟩ age).setCell ⟨gr,5,none⟩ clock).setCell ⟨gr,6,none⟩ (.slice tA tn tc)).setCell ⟨gr,7,none⟩ (.slice eA en ec)).setCell ⟨gr,8,none⟩ (.slice rA rn rc)):=fun n hn=>bU (hbd.mono (by have:=HR.out.lt;omega)) hn (.int .i64 id) (.int .i64 nodes) (.int .i64 next) (.slice oA on oc) (.int .i64 age) (.int .i64 clock) (.slice tA tn tc) (.slice eA en ec) (.slice rA rn rc);have htz2:=(aC.of_below hbd).trans htz;refine nm ((((((((((Z.setCell ⟨gr,0,none⟩ id).setCell ⟨gr,1,none⟩ nodes).setCell ⟨gr,2,none⟩ next).setCell ⟨gr,3,none⟩ (.slice oA on oc)).setCell ⟨gr,4,none⟩ age).setCell ⟨gr,5,none⟩ clock).setCell ⟨gr,6,none⟩ (.slice tA tn tc)).setCell ⟨gr,7,none⟩ (.slice eA en ec)).setCell ⟨gr,8,none⟩ (.slice rA rn rc))) fun Y hY=>?_;rw [←hY] at hW9 htz2 hbz ⊢;clear hY htz hZ hHeld hS1 hS3 hS5 hZ0;show K _ _;apply HK.out;clear HK;dsimp only [Cd,bF,cL,dJ,Tryz.f96,Option.getD];obtain ⟨r_0,r_1,r_2,r_3,r_4,r_5,r_6,r_7,r_8⟩:=bx9 hW9.box;go_wp2_with fail
 exact bodyPost_ret (v:=.tuple #[.agg #[id,nodes,next,.slice oA on oc,age,clock,.slice tA tn tc,.slice eA en ec,.slice rA rn rc],.slice uA un uc]) (by simp [results,results96,go_sem,r_0,r_1,r_2,r_3,r_4,r_5,r_6,r_7,r_8]) rfl (HΨ.out Y htz2 hbz)
end Go.Proofs.YtgfakefcmbpboaaGreat
