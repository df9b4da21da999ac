/- Part 22 of what WorkerExact leans on. No conditions. -/
import Derived.Test.YtgfakefcmbpboaaGreatV21
namespace Go.Proofs.YtgfakefcmbpboaaGreat
set_option linter.all false
set_option maxRecDepth 100000
set_option maxHeartbeats 64000000
open _root_.Go.Proofs.Tryz Go.RowKit
open Tok
def J26 (MP:bQ) (SP:SlP) (a:kF):Value:=.agg (cJ a MP SP)
def iP (w:World) (P:aF) (D:aD) (G:aD→Prop) (e:Ending) (w':World):Prop:=∃P' D',e=.returned (.tuple #[aF.val P' D',.bool true])∧((P'=P∧D'=D)∨∀Z,aC 27 w' Z→w'.heap.size≤Z.heap.size→bG Z P' D')∧Below w w w'∧G D'
theorem JB {w w':World} {P Q:aF} {D E:aD} {G:aD→Prop} (h:∀Z,aC 27 w' Z→w'.heap.size≤Z.heap.size→bG Z P D) (hb:Below w w w') (hg:G D):iP w Q E G (.returned (.tuple #[aF.val P D,.bool true])) w':=⟨P,D,rfl,.inr h,hb,hg⟩
theorem Eo {w w':World} {P:aF} {D:aD} {G:aD→Prop} (hb:Below w w w') (hg:G D):iP w P D G (.returned (.tuple #[aF.val P D,.bool true])) w':=⟨P,D,rfl,.inl ⟨rfl,rfl⟩,hb,hg⟩
def wiI (x n:Int):Int:=x % 18446744073709551616 % n
theorem fQ (x n y:Int) (w:World) (h1:1≤n) (h2:n≤1000) (hy:wiI x n=y):Calls prog 40 #[x,n] w fun e w'=>e=.returned (.int .i64 y)∧w=w':=by
 have e1:IntKind.u64.wrap x=x % 18446744073709551616:=by rw [IntKind.wrap_u64]
 have e2:IntKind.u64.wrap n=n:=by rw [IntKind.wrap_u64];omega
 have e3:((x % 18446744073709551616).tmod n)=y:=by rw [Int.tmod_eq_emod_of_nonneg y2];exact hy
 have hb:0≤y∧y<n:=by rw [←hy];exact ⟨Int.emod_nonneg _ y2,Int.emod_lt_of_pos _ y2⟩
 have e4:IntKind.i64.wrap y=y:=IntWalk.i64_in _ y2;have e5:(n == 0)=false:=by simp;omega
 have e6:¬n=0:=by omega
 clear hy;go_enter func40,ntmps40
 go_wp2
 go_ret
 exact ⟨by simp [*],rfl⟩
def cL:Code→Code
 | .seq _ c=>c
 | c=>c
def dJ:Code→Code
 | .seq c _=>c
 | c=>c
def bF:Nat→Code→Code
 | 0,c=>c
 | n+1,c=>bF n (cL c)
noncomputable def AB:Code:=bF 9 (Tryz.f21.body.getD .skip)
theorem Ak {w:World} {g:Nat} {l m:List Value} (h:bX w g (l ++ m)) {j:Nat} {u:Value} (hu:l[j]? =some u):w.cell? ⟨g,j,none⟩=some u:=h.2 j u ((List.getElem?_append_left ((List.getElem?_eq_some_iff.1 hu).1)).trans hu)
theorem bU {n:Nat} {w Y:World} {g:Nat} (h:Below n w Y) (hp:n≤g) (a0 a1 a2 a3 a4 a5 a6 a7 a8:Value):Below n w (kA Y g a0 a1 a2 a3 a4 a5 a6 a7 a8):=
 ((((((((h.setCell (p:=⟨g,0,none⟩) hp a0).setCell (p:=⟨g,1,none⟩) hp a1).setCell (p:=⟨g,2,none⟩) hp a2).setCell (p:=⟨g,3,none⟩) hp a3).setCell (p:=⟨g,4,none⟩) hp a4).setCell (p:=⟨g,5,none⟩) hp a5).setCell (p:=⟨g,6,none⟩) hp a6).setCell (p:=⟨g,7,none⟩) hp a7).setCell (p:=⟨g,8,none⟩) hp a8
theorem dX {G:aD→Prop} {K:Act→World→Prop} (w W:World) (B gw gr gi gs gx:Nat) (Pw Pi Pq Px:aF) (D D':aD) (bad:Int) (hG:if bad=0 then G D' else G D) (uA lA:Option Addr) (un uc ln lc:Nat) {u0 u1 u3 u5 u7 kK kL kM kN lX kO kP kQ kR kS kT kU kV kX kY lB lC lD lE lF lH lI lJ lK mS oM oN oO oP oQ oR oS oT oU oV oW oX oY oZ pB pC pD pE pF pG pH pI pJ pK pL pM mT pN pO pP pQ pR pS qM qN qO qP qQ qR qT qU qV qW qX qY qZ rB rC rD rE rF rG rH rI rJ rK rL rM rN rO rZ sB gG gH gI gJ mR nO nP nQ nR qG qH qI qJ qK qL sR sS sU sV sW sX sY sZ tB tC tE tF tG tH tI tJ tK tM tN tO tP vM vN vO vP vQ vR vS vT vU vV vW vX vY vZ wA wB wC wD wE wF Gc Gd Ge Gf Gg Gh Gj Gk Gl Gm Gn Gp Gq Gs Gt Gu Gv Gw Gx Gy Gz GA GB GC GD GE GF GG GH GI GJ GK GL GM GN GO GP GQ GR GS GT GU GV GW GX GY GZ G0 G9 Ha Hb Hc Hd He Hf Hg Hh Hi Hj Hk Hl Hm Hn Ho Hp Hq Hr Hs Ht Hu Hv Hw Hx Hy Hz HJ Ia Ib Ic Id Ie If Ig Ih Ii Ij Ik Il Im Io Ip Iq Ir Is:Value}
 (hK:∀a' w',Code.wp prog (cL AB) (bodyPost prog Tryz.f21 (iP w Pw D G)) a' w'→K a' w')
 (hbW:Below w w W) (hwB:w.heap.size≤B) (hBW:B≤W.heap.size)
 (hrw:w.heap.size≤gr) (hrB:gr<B) (hwr:gw≠gr) (hir:gi≠gr) (hsr:gs≠gr)
 (hA:∀Y,Below B W Y→bG Y Pw D∧bG Y Pi D∧Blk Y gw 27 (cW D Pw)∧Blk Y gi 27 (cW D Pi)∧Blk Y gr 27 cZ)
 (hQ1:∀Y,Below W W Y→bG Y Pq D'∧Blk Y gs 70 (cS D' Pq uA un uc)) (hQ2:bad=0→∀Y,Below B W Y→Blk Y gs 70 (cS D' Pq uA un uc))
 (hRES:bad=0→∀Y,Below B W Y→∀Z,aC 27 Y Z→Y.heap.size≤Z.heap.size→bG Z Pq D')
 (hx:Blk W gx 27 (cW D' Px)) (hxo:aX W B Px D') (hbg:dY D')
 (h1:Px.op.n≤1000000) (h2:Px.wa.n≤1000000) (h3:Px.he.n≤1000000) (h4:Px.re.n≤1000000) (g1:∀x∈D'.wa,x.ak.length≤1000000) (g2:∀x∈D'.he,x.b.tx.length≤1000000)
 (heq:∀Y,Below W W Y→Calls prog 62 #[.slice lA ln lc,.slice uA un uc] Y fun e w'=>e=.returned (.bool true)∧Below Y Y w')
 (hsp:∀Y,Below B W Y→aS wO W Y→Calls prog 53 #[.slice lA ln lc] Y fun e w'=>e=.returned (.tuple #[])∧Below B Y w') :
 Code.wp prog (dJ AB) (Exit.then K (bodyPost prog Tryz.f21 (iP w Pw D G))) {tmps:=#[u0,u1,.pointer (some ⟨gw,0,none⟩),u3,.pointer (some ⟨gr,0,none⟩),u5,.pointer (some ⟨gi,0,none⟩),u7,.pointer (some ⟨gs,0,none⟩),.int .i64 bad,.pointer (some ⟨gx,0,none⟩),.slice lA ln lc,.int .i64 bad,kK,kL,kM,kN,lX,kO,kP,kQ,kR,kS,kT,kU,kV,kX,kY,lB,lC,lD,lE,lF,lH,lI,lJ,lK,mS,oM,oN,oO,oP,oQ,oR,oS,oT,oU,oV,oW,oX,oY,oZ,pB,pC,pD,pE,pF,pG,pH,pI,pJ,pK,pL,pM,mT,pN,pO,pP,pQ,pR,pS,qM,qN,qO,qP,qQ,qR,qT,qU,qV,qW,qX,qY,qZ,rB,rC,rD,rE,rF,rG,rH,rI,rJ,rK,rL,rM,rN,rO,rZ,sB,gG,gH,gI,gJ,mR,nO,nP,nQ,nR,qG,qH,qI,qJ,qK,qL,sR,sS,sU,sV,sW,sX,sY,sZ,tB,tC,tE,tF,tG,tH,tI,tJ,tK,tM,tN,tO,tP,vM,vN,vO,vP,vQ,vR,vS,vT,vU,vV,vW,vX,vY,vZ,wA,wB,wC,wD,wE,wF,Gc,Gd,Ge,Gf,Gg,Gh,Gj,Gk,Gl,Gm,Gn,Gp,Gq,Gs,Gt,Gu,Gv,Gw,Gx,Gy,Gz,GA,GB,GC,GD,GE,GF,GG,GH,GI,GJ,GK,GL,GM,GN,GO,GP,GQ,GR,GS,GT,GU,GV,GW,GX,GY,GZ,G0,G9,Ha,Hb,Hc,Hd,He,Hf,Hg,Hh,Hi,Hj,Hk,Hl,Hm,Hn,Ho,Hp,Hq,Hr,Hs,Ht,Hu,Hv,Hw,Hx,Hy,Hz,HJ,Ia,Ib,Ic,Id,Ie,If,Ig,Ih,Ii,Ij,Ik,Il,Im,Io,Ip,Iq,Ir,Is],defers:=[]} W:=by
 have HG0:=ħ hG;have HX:=ħ hx;have HXO:=ħ hxo;have HXW:=ħ (hxo.work hbg);have HEQ:=ħ heq;have HSP:=ħ hsp;have HG1:=ħ g1;have HG2:=ħ g2;clear hG hx hxo heq hsp g1 g2;dsimp only [AB,bF,cL,dJ,Tryz.f21,Option.getD];obtain ⟨S,hSd⟩:∃S:World→Prop,S=fun Y=>(Blk Y gw 27 (cW D Pw)∧Blk Y gi 27 (cW D Pi)∧Blk Y gs 70 (cS D' Pq uA un uc))∧Blk Y gx 27 (cW D' Px):=⟨_,rfl⟩;have hS:∀Y,Below W W Y→S Y:=fun Y hY=>by rw [hSd];exact ⟨⟨(hA Y (hY.mono hBW)).2.2.1,(hA Y (hY.mono hBW)).2.2.2.1,(hQ1 Y hY).2⟩,HX.out.up hY⟩
 have hS1:∀Y,S Y→Y.rangeAt gx 0 (cW D' Px):=fun Y h=>by rw [hSd] at h;exact fun j u hu=>by (rw [Nat.zero_add]);exact (h.2).box.2 j u hu
 have hS2:∀Y,S Y→Y.rangeAt gs 0 (cW D' Pq):=fun Y h=>by
  rw [hSd] at h;intro j u hu;rw [Nat.zero_add];exact Ak (l:=(cW D' Pq)) (m:=[.slice uA un uc]) h.1.2.2.box hu
 have hS3:∀Y,S Y→Y.rangeAt gi 0 (cW D Pi):=fun Y h=>by rw [hSd] at h;exact fun j u hu=>by (rw [Nat.zero_add]);exact (h.1.2.1).box.2 j u hu
 have hS4:∀Y,S Y→Y.rangeAt gw 0 (cW D Pw):=fun Y h=>by rw [hSd] at h;exact fun j u hu=>by (rw [Nat.zero_add]);exact (h.1.1).box.2 j u hu
 have hS5:∀Y,S Y→Y.cell? ⟨gs,9,none⟩=some (.slice uA un uc):=fun Y h=>by rw [hSd] at h;exact h.1.2.2.box.2 9 _ rfl
 clear hSd;refine hd hS fun hHeld=>?_;have hbd:=bdr W;have hZ:=hHeld;generalize W.drew=Z at *;refine tk 0 202 ?_;refine tk 2 204 ?_;refine ry 1 fun K hK=>?_;go_simp;(go_at_call 19;refine (mE _ _).mono ?_;rintro e w' ⟨rfl,rfl⟩)
 refine hk hK (hS _ (hbd)) fun hHeld=>?_;clear hK K;refine tk 3 205 ?_;refine tk 4 206 ?_;refine ld 5 207 hS1 underlying27 ?_;refine tk 6 208 ?_;refine tk 7 209 ?_;refine tk 8 210 ?_;refine ld 9 211 hS2 underlying27 ?_;refine ry 10 fun K hK=>?_;go_simp;(go_at_call 44;refine (eM Px Pq D' _ ((HXW.out).up (hbd)) (hQ1 _ ((hbd))).1).mono ?_;rintro e wa ⟨rfl,hwa⟩)
 have hbwa:=aA (hbd) hwa;refine hk hK (hS _ hbwa) fun hHeld=>?_;clear hK K;refine tk 11 213 ?_;refine tk 12 214 ?_;refine tk 13 215 ?_;refine tk 14 216 ?_;refine tk 15 217 ?_;refine tk 16 218 ?_;refine tq 17 219 hS5 ?_;refine ry 18 fun K hK=>?_;go_simp;(go_at_call 62;refine (HEQ.out _ (hbwa)).mono ?_;rintro e wb ⟨rfl,hwb⟩)
 have hbwb:=aA (hbwa) hwb;refine hk hK (hS _ hbwb) fun hHeld=>?_;clear hK K;refine tk 19 221 ?_;refine tk 20 222 ?_;refine ld 21 223 hS3 underlying27 ?_;refine ld 22 224 hS4 underlying27 ?_;refine ry 23 fun K hK=>?_;go_simp;(go_at_call 44;refine (eM Pi Pw D _ (hA _ (((hbwb)).mono hBW)).2.1 (hA _ (((hbwb)).mono hBW)).1).mono ?_;rintro e wc ⟨rfl,hwc⟩)
 have hbwc:=aA (hbwb) hwc;refine hk hK (hS _ hbwc) fun hHeld=>?_;clear hK K;refine tk 24 226 ?_;refine tk 25 19 ?_;refine wz ?_;show K _ _;apply hK;dsimp only [AB,bF,cL,Tryz.f21,Option.getD];have hXc:=HX.out.up hbwc;have lXc:=hXc.lt;obtain ⟨x_0,x_1,x_2,x_3,x_4,x_5,x_6,x_7,x_8⟩:=bx9 hXc.box;clear hXc;by_cases hbad:bad=0
 · have hbd0:(bad != 0)=false:=by simp [hbad]
   go_wp2_with (first
    | (go_at_call 63;refine (xD Px D' B _ (HXO.out.up hbwc) h1 h2 h3 h4 HG1.out HG2.out (Nat.le_trans hBW hbwc.size)).mono ?_;rintro e ws ⟨rfl,hbs,hks⟩)
    | (go_at_call 53;refine (HSP.out ws ((hbwc.mono hBW).trans hbs) ((aS.of_below hbwc).trans hks)).mono ?_;rintro e wm ⟨rfl,hbm⟩))
   have hbM:Below B W wm:=((hbwc.mono hBW).trans hbs).trans hbm;obtain ⟨S',hSd⟩:∃S:World→Prop,S=fun Y=>Blk Y gw 27 (cW D Pw)∧Blk Y gi 27 (cW D Pi)∧Blk Y gs 70 (cS D' Pq uA un uc):=⟨_,rfl⟩;have hSb:∀Y,Below B W Y→S' Y:=fun Y hY=>by rw [hSd];exact ⟨(hA Y hY).2.2.1,(hA Y hY).2.2.2.1,hQ2 hbad Y hY⟩
   have hSr:∀Y,S' Y→∀(a0 a1 a2 a3 a4 a5 a6 a7 a8:Value),S' (kA Y gr a0 a1 a2 a3 a4 a5 a6 a7 a8):=fun Y h a0 a1 a2 a3 a4 a5 a6 a7 a8=>by rw [hSd] at h ⊢;exact ⟨h.1.sets9 hwr a0 a1 a2 a3 a4 a5 a6 a7 a8,h.2.1.sets9 hir a0 a1 a2 a3 a4 a5 a6 a7 a8,h.2.2.sets9 hsr a0 a1 a2 a3 a4 a5 a6 a7 a8⟩
   have hS2:∀Y,S' Y→Y.rangeAt gs 0 (cW D' Pq):=fun Y h=>by
    rw [hSd] at h;intro j u hu;rw [Nat.zero_add];exact Ak (l:=(cW D' Pq)) (m:=[.slice uA un uc]) h.2.2.box hu
   have hS3:∀Y,S' Y→Y.rangeAt gi 0 (cW D Pi):=fun Y h=>by rw [hSd] at h;exact fun j u hu=>by (rw [Nat.zero_add]);exact (h.2.1).box.2 j u hu
   have hS4:∀Y,S' Y→Y.rangeAt gw 0 (cW D Pw):=fun Y h=>by rw [hSd] at h;exact fun j u hu=>by (rw [Nat.zero_add]);exact (h.1).box.2 j u hu
   clear hSd;refine wp_region_held_drew (S:=S') y8 (hSb _ (hbM.trans ((aM (Below.refl _ _)).mono (Nat.le_trans hBW hbM.size)))) (fun hHeld=>?_);have hbZ:Below B W wm.drew:=hbM.trans ((aM (Below.refl _ _)).mono (Nat.le_trans hBW hbM.size));have hZ:=hHeld;generalize wm.drew=Z' at *;refine tk 0 240 ?_;refine tk 1 241 ?_;refine tk 2 242 ?_;refine ld 3 243 hS2 underlying27 ?_;refine tk 4 244 ?_;refine tk 5 245 ?_;refine ld 6 246 hS3 underlying27 ?_;refine ld 7 247 hS4 underlying27 ?_;refine ry 8 fun K hK=>?_;go_simp;(go_at_call 44;refine (eM Pi Pw D _ (hA _ hbZ).2.1 (hA _ hbZ).1).mono ?_;rintro e we ⟨rfl,hwe⟩)
   have hbe:Below B W we:=hbZ.trans (hwe.mono (Nat.le_trans hBW hbZ.size));refine hk hK (hSb _ hbe) fun hHeld=>?_;clear hK K;refine tk 9 249 ?_;refine ry 10 fun K hK=>?_;have hR:=(hA _ hbe).2.2.2.2;have qf:=hR.frozen;have ql:=hR.lt;have h9:=hR.box;obtain ⟨q0,q1,q2,q3,q4,q5,q6,q7,q8⟩:=bx9 h9;clear h9;go_simp;clear qf ql q0 q1 q2 q3 q4 q5 q6 q7 q8;have hR9:=nW D' Pq (gF hR rfl);have hse:=hSb _ hbe;refine hk hK (nW D' Pq (hSr _ hse)) fun hHeld=>?_;clear hK K;refine tk 11 5 ?_;refine wz ?_;obtain ⟨r_0,r_1,r_2,r_3,r_4,r_5,r_6,r_7,r_8⟩:=bx9 hR9.box;have htk:=nW D' Pq (aC.sets9 hR);have hwr:=fun Z hZ (hz:we.heap.size≤Z.heap.size)=>hRES hbad _ hbe Z (htk.trans hZ) hz;have HWR:=ħ hwr;clear htk;have hbw:=nW D' Pq (bU (hbW.trans (hbe.mono hwB)) hrw);have HBW:=ħ hbw;clear hwr hbw hR9;go_wp2_with fail
   exact bodyPost_ret (v:=.tuple #[.agg (cW D' Pq),.bool true]) y51 rfl (JB (fun Z hZ hz=>HWR.out Z hZ (by simpa [World.setCell] using hz)) HBW.out (by have:=HG0.out;rwa [if_pos hbad] at this))
 · have hbd0:(bad != 0)=true:=by simp [hbad]
   go_wp2_with (first
    | (go_at_call 63;refine (xD Px D' B _ (HXO.out.up hbwc) h1 h2 h3 h4 HG1.out HG2.out (Nat.le_trans hBW hbwc.size)).mono ?_;rintro e ws ⟨rfl,hbs,hks⟩)
    | (go_at_call 53;refine (HSP.out ws ((hbwc.mono hBW).trans hbs) ((aS.of_below hbwc).trans hks)).mono ?_;rintro e wm ⟨rfl,hbm⟩))
   have hbM:Below B W wm:=((hbwc.mono hBW).trans hbs).trans hbm;obtain ⟨S',hSd⟩:∃S:World→Prop,S=fun Y=>Blk Y gw 27 (cW D Pw)∧Blk Y gi 27 (cW D Pi):=⟨_,rfl⟩;have hSb:∀Y,Below B W Y→S' Y:=fun Y hY=>by rw [hSd];exact ⟨(hA Y hY).2.2.1,(hA Y hY).2.2.2.1⟩
   have hSr:∀Y,S' Y→∀(a0 a1 a2 a3 a4 a5 a6 a7 a8:Value),S' (kA Y gr a0 a1 a2 a3 a4 a5 a6 a7 a8):=fun Y h a0 a1 a2 a3 a4 a5 a6 a7 a8=>by rw [hSd] at h ⊢;exact ⟨h.1.sets9 hwr a0 a1 a2 a3 a4 a5 a6 a7 a8,h.2.sets9 hir a0 a1 a2 a3 a4 a5 a6 a7 a8⟩
   have hS3:∀Y,S' Y→Y.rangeAt gi 0 (cW D Pi):=fun Y h=>by rw [hSd] at h;exact fun j u hu=>by (rw [Nat.zero_add]);exact (h.2).box.2 j u hu
   have hS4:∀Y,S' Y→Y.rangeAt gw 0 (cW D Pw):=fun Y h=>by rw [hSd] at h;exact fun j u hu=>by (rw [Nat.zero_add]);exact (h.1).box.2 j u hu
   clear hSd;refine wp_region_held_drew (S:=S') y8 (hSb _ (hbM.trans ((aM (Below.refl _ _)).mono (Nat.le_trans hBW hbM.size)))) (fun hHeld=>?_);have hbZ:Below B W wm.drew:=hbM.trans ((aM (Below.refl _ _)).mono (Nat.le_trans hBW hbM.size));have hZ:=hHeld;generalize wm.drew=Z' at *;refine ld 0 233 hS4 underlying27 ?_;refine tk 1 234 ?_;refine tk 2 235 ?_;refine ld 3 236 hS3 underlying27 ?_;refine ld 4 237 hS4 underlying27 ?_;refine ry 5 fun K hK=>?_;go_simp;(go_at_call 44;refine (eM Pi Pw D _ (hA _ hbZ).2.1 (hA _ hbZ).1).mono ?_;rintro e we ⟨rfl,hwe⟩)
   have hbe:Below B W we:=hbZ.trans (hwe.mono (Nat.le_trans hBW hbZ.size));refine hk hK (hSb _ hbe) fun hHeld=>?_;clear hK K;refine tk 6 239 ?_;refine ry 7 fun K hK=>?_;have hR:=(hA _ hbe).2.2.2.2;have qf:=hR.frozen;have ql:=hR.lt;have h9:=hR.box;obtain ⟨q0,q1,q2,q3,q4,q5,q6,q7,q8⟩:=bx9 h9;clear h9;go_simp;clear qf ql q0 q1 q2 q3 q4 q5 q6 q7 q8;have hR9:=nW D Pw (gF hR rfl);have hse:=hSb _ hbe;refine hk hK (nW D Pw (hSr _ hse)) fun hHeld=>?_;clear hK K;refine tk 8 5 ?_;refine wz ?_;obtain ⟨r_0,r_1,r_2,r_3,r_4,r_5,r_6,r_7,r_8⟩:=bx9 hR9.box;have hbw:=nW D Pw (bU (hbW.trans (hbe.mono hwB)) hrw);have HBW:=ħ hbw;clear hbw hR9;go_wp2_with fail
   exact bodyPost_ret (v:=.tuple #[.agg (cW D Pw),.bool true]) y51 rfl (Eo HBW.out (by have:=HG0.out;rwa [if_neg hbad] at this))
theorem dI {n:Nat} {w:World} {b:Nat} (hb:n≤b):∀(vs:List Value) (o:Nat) (x:World),Below n w x→Below n w (x.setCells b o vs)
 | [],_,_,h=>h
 | v :: r,o,x,h=>by
  rw [World.setCells];exact dI hb r (o+1) _ (h.setCell (p:=⟨b,o,none⟩) hb v)
theorem Blk.thr {w:World} {g:Nat} {t:TypeId} {cs:List Value} (h:Blk w g t cs):w.there g 0 cs.length:=fun j hj=>⟨by rw [Nat.zero_add,h.box.2 j _ (List.getElem?_eq_getElem hj)];simp,by rw [Nat.zero_add];exact h.frozen j⟩
theorem xF (H K:eG) (b1A p1A b2A p2A:Option Addr) (b1n b1c p1n p1c b2n b2c p2n p2c:Nat) (y:Bool) (w:World) (hy:dec (H.au=K.au∧H.ro=K.ro∧b1n=b2n∧p1n=p2n)=y) :
 Calls prog 131 #[.agg #[H.au,H.ro,.slice b1A b1n b1c,.slice p1A p1n p1c],.agg #[K.au,K.ro,.slice b2A b2n b2c,.slice p2A p2n p2c]] w fun e w'=>e=.returned (.bool y)∧Below w w w':=by
 obtain ⟨au,ro,ba,pa⟩:=H;obtain ⟨au',ro',ba',pa'⟩:=K;dsimp only at hy ⊢;have HY:=ħ hy;clear hy;by_cases h0:au=au'
 rotate_left
 · have hy0:y=false:=by rw [←HY.out];exact (dV (fun g=>h0 g.1)).symm
   clear HY;subst hy0;go_enter func131,ntmps131
   go_wp2_with fail
   go_ret
   first|exact ⟨rfl,aI⟩|exact ⟨aH y13,aI⟩
 subst h0;by_cases h1:ro=ro'
 rotate_left
 · have hy0:y=false:=by rw [←HY.out];exact (dV (fun g=>h1 g.2.1)).symm
   clear HY;subst hy0;go_enter func131,ntmps131
   go_wp2_with fail
   go_ret
   first|exact ⟨rfl,aI⟩|exact ⟨aH y13,aI⟩
 subst h1;by_cases h2:b1n=b2n
 rotate_left
 · have hy0:y=false:=by rw [←HY.out];exact (dV (fun g=>h2 g.2.2.1)).symm
   clear HY;subst hy0;go_enter func131,ntmps131
   go_wp2_with fail
   go_ret
   first|exact ⟨rfl,aI⟩|exact ⟨aH y13,aI⟩
 subst h2;by_cases h3:p1n=p2n
 rotate_left
 · have hy0:y=false:=by rw [←HY.out];exact (dV (fun g=>h3 g.2.2.2)).symm
   clear HY;subst hy0;go_enter func131,ntmps131
   go_wp2_with fail
   go_ret
   first|exact ⟨rfl,aI⟩|exact ⟨aH y13,aI⟩
 subst h3;have hy0:y=true:=by rw [←HY.out];exact I0 ⟨rfl,rfl,rfl,rfl⟩
 clear HY;subst hy0;go_enter func131,ntmps131
 go_wp2_with fail
 go_ret
 first|exact ⟨rfl,aI⟩|exact ⟨aH y17,aI⟩
noncomputable def Aw:Code:=bF 3 (Tryz.f130.body.getD .skip)
theorem gB {K:Act→World→Prop} (N:Nat) (v0 v1 v2 v3 v4 v5 v6 v7 v8 v9 v10 v11 v12 v13 v14 v15 v16 v17:Value) (y:Bool) (w V:World) (h1:∀u∈[v0,v1,v2,v3,v4,v5,v6,v7,v8,v9,v10,v11,v12,v13,v14,v15,v16,v17],u.oneCell'=true) {u0 u1 u2 u3 u6 u7 u8 u9 nN lV lW kK kL kM kN lX kO kP kQ kR kS kT kU kV kX kY lB lC lD lE lF lH lI lJ lK mS oM oN oO oP oQ oR oS oT oU oV oW oX oY oZ pB pC pD pE pF pG pH pI pJ pK pL pM mT pN pO pP pQ pR pS qM qN qO qP qQ qR qT qU qV qW qX qY qZ rB rC rD rE rF rG rH rI rJ rK rL rM rN rO rZ sB gG gH gI gJ mR:Value}
 (hK:∀a' w',Code.wp prog (cL Aw) (bodyPost prog Tryz.f130 (fun e w'=>e=.returned (.tuple #[.agg #[v0,v1,v2,v3,v4,v5,v6,v7,v8,v9,v10,v11,v12,v13,v14,v15,v16,v17],.bool y])∧Below w w w')) a' w'→K a' w') (hN:w.heap.size≤N) (hb2:Below w w V) (hX:Blk V N 49 [v0,v1,v2,v3,v4,v5,v6,v7,v8,v9,v10,v11,v12,v13,v14,v15,v16,v17]) :
 Code.wp prog (dJ Aw) (Exit.then K (bodyPost prog Tryz.f130 (fun e w'=>e=.returned (.tuple #[.agg #[v0,v1,v2,v3,v4,v5,v6,v7,v8,v9,v10,v11,v12,v13,v14,v15,v16,v17],.bool y])∧Below w w w'))) {tmps:=#[u0,u1,u2,u3,.pointer (some ⟨N,0,none⟩),.bool y,u6,u7,u8,u9,nN,lV,lW,kK,kL,kM,kN,lX,kO,kP,kQ,kR,kS,kT,kU,kV,kX,kY,lB,lC,lD,lE,lF,lH,lI,lJ,lK,mS,oM,oN,oO,oP,oQ,oR,oS,oT,oU,oV,oW,oX,oY,oZ,pB,pC,pD,pE,pF,pG,pH,pI,pJ,pK,pL,pM,mT,pN,pO,pP,pQ,pR,pS,qM,qN,qO,qP,qQ,qR,qT,qU,qV,qW,qX,qY,qZ,rB,rC,rD,rE,rF,rG,rH,rI,rJ,rK,rL,rM,rN,rO,rZ,sB,gG,gH,gI,gJ,mR],defers:=[]} V:=by
 have HVX:=ħ hX;have HK:=ħ hK;clear hX hK;dsimp only [Aw,bF,cL,dJ,Tryz.f130,Option.getD];refine wp_region_list ?_;simp only [List.toList_toArray];refine lm HVX.out.rng underlying49 ?_;refine pl ?_;refine wpList_store_mid rfl 49 _ _ rfl N 0 ([v0,v1,v2,v3,v4,v5,v6,v7,v8,v9,v10,v11,v12,v13,v14,v15,v16,v17]).toArray y9 y9 HVX.out.thr y8 (all_oneCell_toArray h1) ?_;refine sp ?_;refine pl ?_;refine wpList_nil ?_;have hrg:(V.setCells N 0 [v0,v1,v2,v3,v4,v5,v6,v7,v8,v9,v10,v11,v12,v13,v14,v15,v16,v17]).rangeAt N 0 [v0,v1,v2,v3,v4,v5,v6,v7,v8,v9,v10,v11,v12,v13,v14,v15,v16,v17]:=World.rangeAt_setCells_same V N 0 [v0,v1,v2,v3,v4,v5,v6,v7,v8,v9,v10,v11,v12,v13,v14,v15,v16,v17] HVX.out.thr;have hb3:Below w w (V.setCells N 0 [v0,v1,v2,v3,v4,v5,v6,v7,v8,v9,v10,v11,v12,v13,v14,v15,v16,v17]):=dI y2 _ _ _ hb2
 try simp only [List.toList_toArray]
 refine nm (V.setCells N 0 [v0,v1,v2,v3,v4,v5,v6,v7,v8,v9,v10,v11,v12,v13,v14,v15,v16,v17]) fun U hU=>?_;rw [←hU] at hrg hb3 ⊢;clear hU HVX hb2 h1;show K _ _;apply HK.out;clear HK;dsimp only [Aw,bF,cL,dJ,Tryz.f130,Option.getD];have c0:U.cell? ⟨N,0,none⟩=_:=hrg 0 _ rfl;have c1:U.cell? ⟨N,1,none⟩=_:=hrg 1 _ rfl;have c2:U.cell? ⟨N,2,none⟩=_:=hrg 2 _ rfl;have c3:U.cell? ⟨N,3,none⟩=_:=hrg 3 _ rfl;have c4:U.cell? ⟨N,4,none⟩=_:=hrg 4 _ rfl;have c5:U.cell? ⟨N,5,none⟩=_:=hrg 5 _ rfl;have c6:U.cell? ⟨N,6,none⟩=_:=hrg 6 _ rfl;have c7:U.cell? ⟨N,7,none⟩=_:=hrg 7 _ rfl;have c8:U.cell? ⟨N,8,none⟩=_:=hrg 8 _ rfl;have c9:U.cell? ⟨N,9,none⟩=_:=hrg 9 _ rfl;have c10:U.cell? ⟨N,10,none⟩=_:=hrg 10 _ rfl;have c11:U.cell? ⟨N,11,none⟩=_:=hrg 11 _ rfl;have c12:U.cell? ⟨N,12,none⟩=_:=hrg 12 _ rfl;have c13:U.cell? ⟨N,13,none⟩=_:=hrg 13 _ rfl;have c14:U.cell? ⟨N,14,none⟩=_:=hrg 14 _ rfl;have c15:U.cell? ⟨N,15,none⟩=_:=hrg 15 _ rfl;have c16:U.cell? ⟨N,16,none⟩=_:=hrg 16 _ rfl;have c17:U.cell? ⟨N,17,none⟩=_:=hrg 17 _ rfl;go_wp2_with fail
 exact bodyPost_ret (v:=.tuple #[.agg #[v0,v1,v2,v3,v4,v5,v6,v7,v8,v9,v10,v11,v12,v13,v14,v15,v16,v17],.bool y]) (by simp [results,results130,go_sem,c0,c1,c2,c3,c4,c5,c6,c7,c8,c9,c10,c11,c12,c13,c14,c15,c16,c17]) rfl ⟨rfl,hb3⟩
theorem BA (A:Option Addr) (n c:Nat) (l:List Int) (y:Bool) (w:World) (hl:aL w A n l) (hy:fP l 1 65536=y):Calls prog 152 #[.slice A n c] w fun e w'=>e=.returned (.bool y)∧w=w':=by
 have HL:=ħ hl;have HY:=ħ hy;clear hl hy;go_enter func152,ntmps152
 go_wp2_with (go_at_call 111;(with_reducible refine (yW A n c l 1 65536 y _ HL.out HY.out).mono ?_);rintro e w' ⟨rfl,rfl⟩)
 go_ret
 exact ⟨rfl,rfl⟩
noncomputable def AX:Code:=bF 5 (Tryz.f90.body.getD .skip)
theorem iV {K:Act→World→Prop} (g N:Nat) (P Q:bQ) (M X:aY) (yo y:Bool) (w V:World) {u0 u1 u3 u4 u7 u8 u9 nN lV lW kK kL kM kN lX kO kP kQ kR kS kT kU kV kX kY lB lC lD lE lF lH lI lJ lK mS oM oN oO oP oQ oR oS oT oU oV oW oX oY oZ pB pC pD pE pF pG pH pI pJ pK pL pM mT pN pO pP pQ pR pS qM qN qO qP qQ qR qT qU qV qW qX qY qZ rB rC rD rE rF rG rH rI rJ rK rL rM rN rO rZ sB gG gH gI gJ mR nO nP nQ nR qG qH qI qJ qK qL sR sS sU sV sW sX sY sZ tB tC tE tF tG tH tI tJ tK tM tN tO tP:Value}
 (hK:∀a' w',Code.wp prog (cL AX) (bodyPost prog Tryz.f90 (fun e w'=>e=.returned (.bool y)∧Below w w w')) a' w'→K a' w') (hb2:Below w w V) (hM:Blk V g 49 (dB P M)) (hX:Blk V N 49 (dB Q X)) (hp:eO w P M) (hq:eO w Q X) (hx:X.b.tx=M.b.tx∨X.b.tx=[]) (hy:y=true↔yo=true∧X=M) :
 Code.wp prog (dJ AX) (Exit.then K (bodyPost prog Tryz.f90 (fun e w'=>e=.returned (.bool y)∧Below w w w'))) {tmps:=#[u0,u1,.pointer (some ⟨g,0,none⟩),u3,u4,.pointer (some ⟨N,0,none⟩),.bool yo,u7,u8,u9,nN,lV,lW,kK,kL,kM,kN,lX,kO,kP,kQ,kR,kS,kT,kU,kV,kX,kY,lB,lC,lD,lE,lF,lH,lI,lJ,lK,mS,oM,oN,oO,oP,oQ,oR,oS,oT,oU,oV,oW,oX,oY,oZ,pB,pC,pD,pE,pF,pG,pH,pI,pJ,pK,pL,pM,mT,pN,pO,pP,pQ,pR,pS,qM,qN,qO,qP,qQ,qR,qT,qU,qV,qW,qX,qY,qZ,rB,rC,rD,rE,rF,rG,rH,rI,rJ,rK,rL,rM,rN,rO,rZ,sB,gG,gH,gI,gJ,mR,nO,nP,nQ,nR,qG,qH,qI,qJ,qK,qL,sR,sS,sU,sV,sW,sX,sY,sZ,tB,tC,tE,tF,tG,tH,tI,tJ,tK,tM,tN,tO,tP],defers:=[]} V:=by
 obtain ⟨⟨bA,bn,bc⟩,⟨⟨xA,xn,xc⟩,⟨yA,yn,yc⟩⟩,⟨⟨⟨cA,cn,cd⟩,⟨dA,dn,dc⟩⟩,⟨sA,sn,sc⟩⟩,⟨eA,en,ec⟩⟩:=P;obtain ⟨⟨bA',bn',bc'⟩,⟨⟨xA',xn',xc'⟩,⟨yA',yn',yc'⟩⟩,⟨⟨⟨cA',cn',cd'⟩,⟨dA',dn',dc'⟩⟩,⟨sA',sn',sc'⟩⟩,⟨eA',en',ec'⟩⟩:=Q;obtain ⟨ki,fr,tt,di,b,hd,cc,ds⟩:=M;obtain ⟨ki',fr',tt',di',b',hd',cc',ds'⟩:=X;have HVM:Hid (Blk V g 49 (cN ki fr tt di b hd cc bA bn bc xA xn xc yA yn yc cA cn cd dA dn dc sA sn sc eA en ec)):=ħ hM;have HVX:Hid (Blk V N 49 (cN ki' fr' tt' di' b' hd' cc' bA' bn' bc' xA' xn' xc' yA' yn' yc' cA' cn' cd' dA' dn' dc' sA' sn' sc' eA' en' ec')):=ħ hX;have HM:=ħ (hp.up hb2);have HX:=ħ (hq.up hb2);have HXX:=ħ hx;have HK:=ħ hK;have HB:=ħ hb2;have HY:=ħ hy;clear hX hK hM hp hq hx hb2 hy;dsimp only [AX,bF,cL,dJ,Tryz.f90,Option.getD];cases yo
 · obtain rfl:y=false:=by have:=HY.out;simpa using this
   clear HY HXX HM HX HVM HVX;go_wp2_with fail
   show K _ _;apply HK.out;clear HK;dsimp only [AX,bF,cL,dJ,Tryz.f90,Option.getD];go_wp2_with fail
   go_ret
   exact ⟨rfl,HB.out⟩
 · have hE:dec ((⟨ki',fr',tt',di',b',hd',cc',ds'⟩:aY)=⟨ki,fr,tt,di,b,hd,cc,ds⟩)=y:=by rw [Bool.eq_iff_iff,bJ,HY.out];simp
   have HE:=ħ hE;clear HY hE;refine wp_region_list ?_;simp only [List.toList_toArray]
   iterate 2 (refine pl ?_)
   refine lm HVX.out.rng underlying49 ?_;refine lm HVM.out.rng underlying49 ?_;go_wp2_with fail
   refine (zZ ⟨⟨bA',bn',bc'⟩,⟨⟨xA',xn',xc'⟩,⟨yA',yn',yc'⟩⟩,⟨⟨⟨cA',cn',cd'⟩,⟨dA',dn',dc'⟩⟩,⟨sA',sn',sc'⟩⟩,⟨eA',en',ec'⟩⟩ ⟨⟨bA,bn,bc⟩,⟨⟨xA,xn,xc⟩,⟨yA,yn,yc⟩⟩,⟨⟨⟨cA,cn,cd⟩,⟨dA,dn,dc⟩⟩,⟨sA,sn,sc⟩⟩,⟨eA,en,ec⟩⟩ ⟨ki',fr',tt',di',b',hd',cc',ds'⟩ ⟨ki,fr,tt,di,b,hd,cc,ds⟩ _ HX.out HM.out HXX.out).mono ?_;rintro e w9 ⟨rfl,hb9⟩;rw [HE.out];have hb9':=aA HB.out hb9;go_wp2_with fail
   show K _ _;apply HK.out;clear HK;dsimp only [AX,bF,cL,dJ,Tryz.f90,Option.getD];go_wp2_with fail
   go_ret
   exact ⟨rfl,hb9'⟩
theorem Ct (A:Option Addr) (n c:Nat) (l:List Int) (m:Int) (y:Bool) (w:World) (hl:aL w A n l) (hy:y=true↔(n:Int)≤m∧fP l 1 65536=true):Calls prog 129 #[.slice A n c,m] w fun e w'=>e=.returned (.bool y)∧Below w w w':=by
 rw [wU] at hy;refine mn (Cv l) fun yr hr=>?_;refine mn (yD l 1 65536) fun yb hb=>?_;rw [hr,hb] at hy;have HR:=ħ hr;have HB:=ħ hb;have HY:=ħ hy;have HL:=ħ hl;clear hr hb hy hl;by_cases h1:(n:Int)≤m
 rotate_left
 · obtain rfl:y=false:=by cases y;rfl;exact absurd (HY.out.1 rfl).1 h1
   have d1:decide ((n:Int)≤m)=false:=decide_eq_false h1;clear HY;go_enter func129,ntmps129
   go_wp2_with fail
   go_ret
   exact ⟨rfl,aI⟩
 have d1:decide ((n:Int)≤m)=true:=decide_eq_true h1;cases yb
 · obtain rfl:y=false:=by cases y;rfl;exact absurd (HY.out.1 rfl).2.2 y17
   clear HY;go_enter func129,ntmps129
   go_wp2_with (go_at_call 34;(with_reducible refine (lT A n c l false _ HL.out HB.out).mono ?_);rintro e w' ⟨rfl,rfl⟩)
   go_ret
   exact ⟨rfl,aI⟩
 obtain rfl:y=yr:=by rw [Bool.eq_iff_iff,HY.out];simp [h1]
 clear HY;go_enter func129,ntmps129
 go_wp2_with (first|(go_at_call 34;(with_reducible refine (lT A n c l true _ HL.out HB.out).mono ?_);rintro e w' ⟨rfl,rfl⟩)|(go_at_call 37;(with_reducible refine (zH A n c l y _ HL.out HR.out).mono ?_);rintro e w7 ⟨rfl,hb7⟩))
 go_ret
 exact ⟨rfl,hb7⟩
end Go.Proofs.YtgfakefcmbpboaaGreat
