/- Part 15 of what WorkerExact leans on. No conditions. -/
import Derived.Test.YtgfakefcmbpboaaGreatV13
namespace Go.Proofs.YtgfakefcmbpboaaGreat
set_option linter.all false
set_option maxRecDepth 100000
set_option maxHeartbeats 64000000
open _root_.Go.Proofs.Tryz Go.RowKit
open Tok
def InT (w:World) (B g k o:Nat) (t:TypeId) (kt j:Nat):Prop:=∃x:SlP,w.cell? ⟨g,j*k+o,none⟩=some (.slice x.A x.n x.c)∧lN w B t kt x∧x.n≤1000000
theorem InT.keep {S:TypeId→Prop} {w w':World} {B g k o:Nat} {t tr:TypeId} {kt j:Nat} {cur:Array Value} (h:InT w B g k o t kt j) (hk:aS S w w') (hg:w.heap[g]? =some (.cells cur tr (0,0))) (hS:¬S tr):InT w' B g k o t kt j:=by
 obtain ⟨x,h1,h2,h3⟩:=h;refine ⟨x,?_,h2.keep hk,h3⟩;obtain ⟨c',e1,e2,e3⟩:=hk g cur tr hg;rw [e3 hS] at e1;rw [←h1];unfold World.cell?;simp only [hg,e1]
theorem InT.other {w w':World} {B g k o:Nat} {t:TypeId} {kt j:Nat} {S:TypeId→Prop} (h:InT w B g k o t kt j) (hk:aS S w w') (hc:w'.cell? ⟨g,j*k+o,none⟩=w.cell? ⟨g,j*k+o,none⟩):InT w' B g k o t kt j:=by
 obtain ⟨x,h1,h2,h3⟩:=h;exact ⟨x,hc.trans h1,h2.keep hk,h3⟩
def CN (w:World) (B:Nat) (tr:TypeId) (k o:Nat) (t:TypeId) (kt:Nat) (s:SlP):Prop:=(s.v=.slice none 0 0)∨∃g cur,s.A=some ⟨g,0,none⟩∧B≤g∧w.heap[g]? =some (.cells cur tr (0,0))∧s.n≤s.c∧s.c≤maxLen∧cur.size=s.c*k∧∀j,j<s.n→InT w B g k o t kt j
theorem CN.keep {S:TypeId→Prop} {w w':World} {B k o:Nat} {tr t:TypeId} {kt:Nat} {s:SlP} (h:CN w B tr k o t kt s) (hk:aS S w w') (hS:¬S tr):CN w' B tr k o t kt s:=by
 rcases h with h|⟨g,cur,e,hb,hg,h1,h2,h3,h4⟩
 · exact .inl h
 · obtain ⟨c',k1,k2,k3⟩:=hk g cur tr hg;exact .inr ⟨g,c',e,hb,k1,h1,h2,by omega,fun j hj=>(h4 j hj).keep hk hg hS⟩
theorem FS {w:World} {B k n:Nat} {t:TypeId} {v:Value} {xs:List Value} (h:w.ownsRow B t k v n xs):∃s:SlP,v=s.v∧s.n=n∧lN w B t k s:=by
 rcases h.2 with ⟨e,e2⟩|⟨g,cap,cur,e,hb,hg,h1,h2,h3,_⟩
 · exact ⟨⟨none,0,0⟩,e,e2.symm,.inl rfl⟩
 · exact ⟨⟨some ⟨g,0,none⟩,n,cap⟩,e,rfl,.inr ⟨g,cur,rfl,hb,hg,h1,h2,by rw [h3]⟩⟩
theorem bL.rowD {w:World} {B:Nat} {s:SlP} {l:List bI} (h:bL w B s.v l) (hs:∀x∈l,x.b.tx.length≤1000000):CN w B 101 4 3 41 4 s:=by
 obtain ⟨ps,h1,h2,h3⟩:=h;rcases h1.2 with ⟨e,_⟩|⟨g,cap,cur,e,hb,hg,a1,a2,a3,a4⟩
 · exact .inl e
 · unfold SlP.v at e;injection e with e1 e2 e3;refine .inr ⟨g,cur,e1,hb,hg,by omega,by omega,by rw [a3,e3];rfl,fun j hj=>?_⟩;have hjl:j<l.length:=by omega
   have hin:bD w B (ps.getD j default) (l.getD j default).b.tx:=h3 j hjl;obtain ⟨x,hx1,hx2,hx3⟩:=FS hin;refine ⟨x,?_,hx3,by rw [hx2];exact hs _ (cB hjl)⟩;have:=World.ownsRow.cells h1 (g:=g) (by unfold SlP.v;rw [e1];rfl) (j*4+3) (.slice x.A x.n x.c) (by have h9:=cO eV h2 hjl (r:=3) (by show 3<4;omega);rw [show j*4+3=j*eV.k+3 from rfl,h9];show some (ps.getD j default)=_;rw [hx1];rfl);simpa [Addr.add_lit] using this
theorem cR.rowD {w:World} {B:Nat} {s:SlP} {l:List aV} (h:cR w B s.v l) (hs:∀x∈l,x.ak.length≤1000000):CN w B 56 2 1 3 1 s:=by
 obtain ⟨ps,h1,h2,h3⟩:=h;rcases h1.2 with ⟨e,_⟩|⟨g,cap,cur,e,hb,hg,a1,a2,a3,a4⟩
 · exact .inl e
 · unfold SlP.v at e;injection e with e1 e2 e3;refine .inr ⟨g,cur,e1,hb,hg,by omega,by omega,by rw [a3,e3];rfl,fun j hj=>?_⟩;have hjl:j<l.length:=by omega
   have hin:aE w B (ps.getD j default) (l.getD j default).ak:=h3 j hjl;obtain ⟨x,hx1,hx2,hx3⟩:=FS hin;refine ⟨x,?_,hx3,by rw [hx2];exact hs _ (cB hjl)⟩;have:=World.ownsRow.cells h1 (g:=g) (by unfold SlP.v;rw [e1];rfl) (j*2+1) (.slice x.A x.n x.c) (by have h9:=cO aN h2 hjl (r:=1) y97;rw [show j*2+1=j*aN.k+1 from rfl,h9];show some (ps.getD j default)=_;rw [hx1];rfl);simpa [Addr.add_lit] using this
theorem C9 (s:SlP) (B:Nat) (w:World) (hr:CN w B 101 4 3 41 4 s) (hn:s.n≤1000000) (hB:B≤w.heap.size) :
 Calls prog 106 #[s] w fun e w'=>e=.returned (.tuple #[])∧Below B w w'∧aS (fun t=>t=41∨t=101) w w':=by
 obtain ⟨A,n,c⟩:=s;dsimp only at hn ⊢;rcases hr with h|⟨g,cur,h0,hgB,hg,h1,h2,h3,h4⟩
 · unfold SlP.v at h;injection h with e1 e2 e3;subst e1;subst e2;subst e3;go_enter func106,ntmps106
   go_wp2_with fail
   go_loop [2] (fun i=>i=.int .i64 0) (fun _=>0)
   case atStart=>rfl
   case round=>
    obtain rfl:=hrel;go_wp2_with fail
    go_end0
    exact ⟨rfl,Below.refl _ _,.refl _ _⟩
 · dsimp only at h0 h1 h2 h3 h4;subst h0;go_enter func106,ntmps106
   go_wp2_with fail
   go_loopw [2] (fun i wr=>∃(k:Nat) (cr:Array Value),k≤n∧i=.int .i64 k∧wr.heap[g]? =some (.cells cr 101 (0,0))∧cr.size=c*4∧Hid (∀j,k≤j→j<n→InT wr B g 4 3 41 4 j)∧Below B w wr∧aS (fun t=>t=41∨t=101) w wr) (fun i _=>n-(intOf i).toNat)
   case atStart=>exact ⟨0,cur,by omega,rfl,hg,h3,ħ (fun j _ hj=>h4 j hj),Below.refl _ _,.refl _ _⟩
   case round=>
    obtain ⟨k,cr,hk,rfl,hgr,hcr,HIN,hbw,hkw⟩:=hrel
    (obtain ⟨wk,hwk⟩:∃x,x=wr:=⟨_,rfl⟩);subst hwk
    have HG:=ħ hgr;have HK:=ħ hkw;have HB:=ħ hbw;have hBk:B≤wk.heap.size:=Nat.le_trans hB hbw.size;by_cases hlt:k<n
    · obtain ⟨⟨xA,xn,xc⟩,hx1,hx2,hx3⟩:=HIN.out k (Nat.le_refl _) hlt;dsimp only at hx1 hx3;have hgl:g<wk.heap.size:=(Array.getElem?_eq_some_iff.1 hgr).1;have HX:=ħ hx2;clear hgr hkw hbw hx2;go_wp2_with fail
      refine (oC ⟨xA,xn,xc⟩ B _ HX.out hx3 hBk).mono ?_;rintro e w5 ⟨rfl,hb5,hk5⟩;obtain ⟨cr5,hg5,hs5,he5⟩:=hk5 g cr 101 HG.out;have e5:=he5 y5;rw [e5] at hg5;have hin5:∀j,k≤j→j<n→InT w5 B g 4 3 41 4 j:=fun j hj1 hj2=>(HIN.out j hj1 hj2).keep hk5 HG.out y5;have hk5':aS (fun t=>t=41∨t=101) wk w5:=hk5.weak (fun t h=>.inl h);have hB5:Below B w w5:=HB.out.trans hb5;obtain ⟨u0,hu0⟩:∃u,w5.cell? ⟨g,k*4,none⟩=some u:=⟨cr[k*4]'y2,by simp [World.cell?,hg5,show k*4<cr.size by omega]⟩;obtain ⟨u1,hu1⟩:∃u,w5.cell? ⟨g,k*4+1,none⟩=some u:=⟨cr[k*4+1]'y2,by simp [World.cell?,hg5,show k*4+1<cr.size by omega]⟩;obtain ⟨u2,hu2⟩:∃u,w5.cell? ⟨g,k*4+2,none⟩=some u:=⟨cr[k*4+2]'y2,by simp [World.cell?,hg5,show k*4+2<cr.size by omega]⟩;obtain ⟨u3,hu3⟩:∃u,w5.cell? ⟨g,k*4+3,none⟩=some u:=⟨cr[k*4+3]'y2,by simp [World.cell?,hg5,show k*4+3<cr.size by omega]⟩;have hf:∀o,w5.frozen? ⟨g,o,none⟩=false:=fun o=>by simp [World.frozen?,hg5]
      have hgl5:g<w5.heap.size:=(Array.getElem?_eq_some_iff.1 hg5).1;obtain ⟨c',hc1,hc2,hc3,hc4⟩:=BU hg5 hB5 hgB (k*4) (k*4+1) (k*4+2) (k*4+3) (.int .i64 (-9)) (.int .i64 0) (.int .i64 0) (.slice none 0 0)
      have hin6:∀j,k+1≤j→j<n→InT ((((w5.setCell ⟨g,k*4,none⟩ (.int .i64 (-9))).setCell ⟨g,k*4+1,none⟩ z0).setCell ⟨g,k*4+2,none⟩ z0).setCell ⟨g,k*4+3,none⟩ n0) B g 4 3 41 4 j:=fun j hj1 hj2=>(hin5 j y2 hj2).other hc3 (by
       rw [World.cell?_setCell_other (h:=by intro e;simp only [Addr.mk.injEq] at e;omega),World.cell?_setCell_other (h:=by intro e;simp only [Addr.mk.injEq] at e;omega),World.cell?_setCell_other (h:=by intro e;simp only [Addr.mk.injEq] at e;omega),World.cell?_setCell_other (h:=by intro e;simp only [Addr.mk.injEq] at e;omega)])
      have H1:=ħ hc1;have H2:=ħ hc2;have H3:=ħ (HK.out.trans (hk5'.trans (hc3.weak (fun t h=>.inr h))));have H4:=ħ hc4;have H6:=ħ hin6;clear hc1 hc2 hc3 hc4 hin5 hin6 hb5 hk5 hk5' he5 e5 hx1 hs5 hg5 HX;go_wp2_with fail
      (refine rnd ?_;exact ⟨k+1,c',by omega,by go_num,H1.out,by (rw [H2.out];exact hcr),H6,H4.out,H3.out⟩)
    · clear hgr;go_wp2_with fail
      go_end0
      exact ⟨rfl,HB.out,HK.out⟩
def wO (t:TypeId):Prop:=t=41∨t=101∨t=3∨t=56
theorem xD (P:aF) (D:aD) (B:Nat) (w:World) (h:aX w B P D) (h1:P.op.n≤1000000) (h2:P.wa.n≤1000000) (h3:P.he.n≤1000000) (h4:P.re.n≤1000000) (g1:∀x∈D.wa,x.ak.length≤1000000) (g2:∀x∈D.he,x.b.tx.length≤1000000) (hB:B≤w.heap.size) :
 Calls prog 63 #[P.val D] w fun e w'=>e=.returned (.tuple #[])∧Below B w w'∧aS wO w w':=by
 have hop:lN w B 41 4 P.op:=gS h.op;have hwa:CN w B 56 2 1 3 1 P.wa:=h.wa.rowD g1;have hhe:CN w B 101 4 3 41 4 P.he:=h.he.rowD g2;have hrr:lN w B 3 1 P.re:=gS h.re;obtain ⟨⟨oA,on,oc⟩,⟨tA,tn,tc⟩,⟨eA,en,ec⟩,⟨rA,rn,rc⟩⟩:=P;have HOP:=ħ hop;have HWA:=ħ hwa;have HHE:=ħ hhe;have HRR:=ħ hrr;dsimp only at h1 h2 h3 h4;clear h hop hwa hhe hrr g1 g2;show Calls prog 63 #[.agg (cV D oA on oc tA tn tc eA en ec rA rn rc)] w _;go_enter func63,ntmps63
 have hbX:Below w w (w.alloc (.cells (cV D oA on oc tA tn tc eA en ec rA rn rc) 27)):=aJ;have hX:Blk (w.alloc (.cells (cV D oA on oc tA tn tc eA en ec rA rn rc) 27)) w.heap.size 27 (cV D oA on oc tA tn tc eA en ec rA rn rc):=Blk.new w 27 (cV D oA on oc tA tn tc eA en ec rA rn rc);go_upto_region 1 with fail
 generalize (w.alloc (.cells (cV D oA on oc tA tn tc eA en ec rA rn rc) 27))=X at *;refine nm w.heap.size fun N hN=>?_;rw [←hN] at hX ⊢;clear hN;have hkX:aS wO w X:=.of_below hbX;have HX:=ħ hX;have HBX:=ħ (hbX.mono hB);have HKX:=ħ hkX;have hBX:B≤X.heap.size:=Nat.le_trans hB hbX.size;obtain ⟨a_0,a_1,a_2,a_3,a_4,a_5,a_6,a_7,a_8⟩:=bx9 hX.box;have hXl:=hX.lt;clear hX hkX;go_wp2_with fail
 refine (oC ⟨oA,on,oc⟩ B _ (HOP.out.keep HKX.out) h1 hBX).mono ?_;rintro e w1 ⟨rfl,hb1,hk1⟩
 have hX1:Blk w1 N 27 (cV D oA on oc tA tn tc eA en ec rA rn rc):=by
  obtain ⟨c',k1,k2,k3⟩:=hk1 N _ 27 HX.out;rw [k3 y5] at k1;exact k1
 have HK1:Hid (aS wO w w1):=ħ (HKX.out.trans (hk1.weak (fun t h=>.inl h)));have hkt:aS (·=41) w w1:=(aS.of_below hbX).trans hk1;have HB1:=ħ (HBX.out.trans hb1);have HX1:=ħ hX1;have hB1:B≤w1.heap.size:=Nat.le_trans hBX hb1.size;have hX1l:=hX1.lt;clear a_0 a_1 a_2 a_3 a_4 a_5 a_6 a_7 a_8 hXl hb1 hk1 HX HKX HBX;obtain ⟨a_0,a_1,a_2,a_3,a_4,a_5,a_6,a_7,a_8⟩:=bx9 hX1.box;clear hX1;have HWA1:=ħ (HWA.out.keep hkt y5);have HKT:=ħ hkt;clear hkt;go_wp2_with fail
 go_loopw [2] (fun iv wr=>∃(k:Nat),k≤tn∧iv=.int .i64 k∧Hid (tn=0∨∃(gw:Nat) (cr:Array Value),tA=some ⟨gw,0,none⟩∧B≤gw∧wr.heap[gw]? =some (.cells cr 56 (0,0))∧tn≤tc∧cr.size=tc*2∧∀j,k≤j→j<tn→InT wr B gw 2 1 3 1 j)∧Hid (Blk wr N 27 (cV D oA on oc tA tn tc eA en ec rA rn rc))∧Below B w wr∧aS (fun t=>t=41∨t=3∨t=56) w wr) (fun iv _=>tn-(intOf iv).toNat)
 case atStart=>
  refine ⟨0,Nat.zero_le _,rfl,ħ ?_,HX1,HB1.out,HKT.out.weak (fun t h=>.inl h)⟩;rcases HWA1.out with hw|⟨gw,cw,e0,hgB,hg,l1,l2,l3,l4⟩
  · unfold SlP.v at hw;injection hw with e1 e2 e3;exact .inl e2
  · exact .inr ⟨gw,cw,e0,hgB,hg,l1,l3,fun j _ hj=>l4 j hj⟩
 case round=>
  clear HX1 HB1 HK1 HWA1 HKT hX1l a_0 a_1 a_2 a_3 a_4 a_5 a_6 a_7 a_8;obtain ⟨k,hk,rfl,HR,HX,hbw,hkw⟩:=hrel
  (obtain ⟨wk,hwk⟩:∃x,x=wr:=⟨_,rfl⟩);subst hwk
  have HB:=ħ hbw;have HK:=ħ hkw;have hBk:B≤wk.heap.size:=Nat.le_trans hB hbw.size;have hXl:=HX.out.lt;obtain ⟨a_0,a_1,a_2,a_3,a_4,a_5,a_6,a_7,a_8⟩:=bx9 HX.out.box;by_cases hlt:k<tn
  · rcases HR.out with h0|⟨gw,cr,e0,hgB,hg,l1,l3,l4⟩
    · exact absurd h0 y2
    · subst e0;obtain ⟨⟨xA,xn,xc⟩,hx1,hx2,hx3⟩:=l4 k (Nat.le_refl _) hlt;dsimp only at hx1 hx3;have hgl:gw<wk.heap.size:=(Array.getElem?_eq_some_iff.1 hg).1;have HXX:=ħ hx2;have HG:=ħ hg;have HL4:=ħ l4;clear hbw hkw hx2 hg l4;go_wp2_with fail
      refine (gA ⟨xA,xn,xc⟩ B _ HXX.out hx3 hBk).mono ?_;rintro e w5 ⟨rfl,hb5,hk5⟩;obtain ⟨cr5,hg5,hs5,he5⟩:=hk5 gw cr 56 HG.out;have e5:=he5 y5;rw [e5] at hg5
      have hX5:Blk w5 N 27 [D.id,D.nodes,D.next,.slice oA on oc,D.age,D.clock,.slice (some ⟨gw,0,none⟩) tn tc,.slice eA en ec,.slice rA rn rc]:=by
       obtain ⟨c',k1,k2,k3⟩:=hk5 N _ 27 HX.out;rw [k3 y5] at k1;exact k1
      have hin5:∀j,k≤j→j<tn→InT w5 B gw 2 1 3 1 j:=fun j hj1 hj2=>(HL4.out j hj1 hj2).keep hk5 HG.out y5;have hk5':aS (fun t=>t=41∨t=3∨t=56) wk w5:=hk5.weak (fun t h=>.inr (.inl h));have hB5:Below B w w5:=HB.out.trans hb5;obtain ⟨u0,hu0⟩:∃u,w5.cell? ⟨gw,k*2,none⟩=some u:=⟨cr[k*2]'y2,by simp [World.cell?,hg5,show k*2<cr.size by omega]⟩;obtain ⟨u1,hu1⟩:∃u,w5.cell? ⟨gw,k*2+1,none⟩=some u:=⟨cr[k*2+1]'y2,by simp [World.cell?,hg5,show k*2+1<cr.size by omega]⟩;have hf:∀o,w5.frozen? ⟨gw,o,none⟩=false:=fun o=>by simp [World.frozen?,hg5]
      have hgl5:gw<w5.heap.size:=(Array.getElem?_eq_some_iff.1 hg5).1;obtain ⟨c',hc1,hc2,hc3,hc4⟩:=E1 hg5 hB5 hgB (k*2) (k*2+1) (.int .i64 (-9)) (.slice none 0 0)
      have hin6:∀j,k+1≤j→j<tn→InT ((w5.setCell ⟨gw,k*2,none⟩ (.int .i64 (-9))).setCell ⟨gw,k*2+1,none⟩ n0) B gw 2 1 3 1 j:=fun j hj1 hj2=>(hin5 j y2 hj2).other hc3 (by
       rw [World.cell?_setCell_other (h:=by intro e;simp only [Addr.mk.injEq] at e;omega),World.cell?_setCell_other (h:=by intro e;simp only [Addr.mk.injEq] at e;omega)])
      have hX6:Blk ((w5.setCell ⟨gw,k*2,none⟩ (.int .i64 (-9))).setCell ⟨gw,k*2+1,none⟩ n0) N 27 [D.id,D.nodes,D.next,.slice oA on oc,D.age,D.clock,.slice (some ⟨gw,0,none⟩) tn tc,.slice eA en ec,.slice rA rn rc]:=by
       obtain ⟨c9,k1,k2,k3⟩:=hc3 N _ 27 hX5;rw [k3 y5] at k1;exact k1
      have H1:=ħ hc1;have H2:=ħ (hc2.trans (show cr.size=tc*2 from l3));have H3:=ħ (HK.out.trans (hk5'.trans (hc3.weak (fun t h=>.inr (.inr h)))));have H4:=ħ hc4;have H6:=ħ hin6;have HX5l:=hX5.lt;clear a_0 a_1 a_2 a_3 a_4 a_5 a_6 a_7 a_8;obtain ⟨a_0,a_1,a_2,a_3,a_4,a_5,a_6,a_7,a_8⟩:=bx9 hX5.box;clear hc1 hc2 hc3 hc4 hin5 hin6 hb5 hk5 hk5' he5 e5 hx1 hs5 hg5 HXX HG HL4 hX5;go_wp2_with fail
      (refine rnd ?_;exact ⟨k+1,by omega,by go_num,ħ (.inr ⟨gw,c',rfl,hgB,H1.out,l1,H2.out,H6.out⟩),ħ hX6,H4.out,H3.out⟩)
  · clear hbw hkw;go_wp2_with fail
    refine (C9 ⟨eA,en,ec⟩ B _ (HHE.out.keep HK.out y5) h3 hBk).mono ?_;rintro e w6 ⟨rfl,hb6,hk6⟩
    have hX6:Blk w6 N 27 (cV D oA on oc tA tn tc eA en ec rA rn rc):=by
     obtain ⟨c',k1,k2,k3⟩:=hk6 N _ 27 HX.out;rw [k3 y5] at k1;exact k1
    have HK6:Hid (aS wO w w6):=ħ ((HK.out.weak (fun t h=>h.elim .inl (fun h=>h.elim (fun h=>.inr (.inr (.inl h))) (fun h=>.inr (.inr (.inr h)))))).trans (hk6.weak (fun t h=>h.elim .inl (fun h=>.inr (.inl h)))));have HB6:=ħ (HB.out.trans hb6);have hB6:B≤w6.heap.size:=Nat.le_trans hBk hb6.size;have hX6l:=hX6.lt;clear a_0 a_1 a_2 a_3 a_4 a_5 a_6 a_7 a_8 hb6 hk6;obtain ⟨a_0,a_1,a_2,a_3,a_4,a_5,a_6,a_7,a_8⟩:=bx9 hX6.box;clear hX6;go_wp2_with fail
    refine (gA ⟨rA,rn,rc⟩ B _ (HRR.out.keep HK6.out) h4 hB6).mono ?_;rintro e w7 ⟨rfl,hb7,hk7⟩;go_wp2_with fail
    go_end0
    exact ⟨rfl,HB6.out.trans hb7,HK6.out.trans (hk7.weak (fun t h=>.inr (.inr (.inl h))))⟩
theorem iD {S:TypeId→Prop} {w w':World} {g:Nat} {cur:Array Value} {t:TypeId} (hk:aS S w w') (hg:w.heap[g]? =some (.cells cur t (0,0))) (hS:¬S t):w'.heap[g]? =some (.cells cur t (0,0)):=by
 obtain ⟨c',h1,h2,h3⟩:=hk g cur t hg;rw [h3 hS] at h1;exact h1
theorem gW {S:TypeId→Prop} {w w':World} {g o:Nat} {cur:Array Value} {t:TypeId} (hk:aS S w w') (hg:w.heap[g]? =some (.cells cur t (0,0))) (hS:¬S t):w'.cell? ⟨g,o,none⟩=w.cell? ⟨g,o,none⟩:=by
 have h1:=iD hk hg hS;unfold World.cell?;simp only [hg,h1]
theorem Blk.keepS {S:TypeId→Prop} {w w':World} {g:Nat} {t:TypeId} {cs:List Value} (h:Blk w g t cs) (hk:aS S w w') (hS:¬S t):Blk w' g t cs:=iD hk h hS
structure yT (w:World) (B:Nat) (P:bQ):Prop where
 b:lN w B 41 4 P.b
 bn:P.b.n≤1000000
 h1:lN w B 3 1 P.h.b
 h1n:P.h.b.n≤1000000
 h2:lN w B 3 1 P.h.p
 h2n:P.h.p.n≤1000000
 c1:lN w B 3 1 P.c.h.b
 c1n:P.c.h.b.n≤1000000
 c2:lN w B 3 1 P.c.h.p
 c2n:P.c.h.p.n≤1000000
 c3:lN w B 3 1 P.c.s
 c3n:P.c.s.n≤1000000
 ds:lN w B 3 1 P.ds
 dsn:P.ds.n≤1000000
theorem yT.keep {S:TypeId→Prop} {w w':World} {B:Nat} {P:bQ} (h:yT w B P) (hk:aS S w w'):yT w' B P:=⟨h.b.keep hk,h.bn,h.h1.keep hk,h.h1n,h.h2.keep hk,h.h2n,h.c1.keep hk,h.c1n,h.c2.keep hk,h.c2n,h.c3.keep hk,h.c3n,h.ds.keep hk,h.dsn⟩
def InM (w:World) (B g j:Nat):Prop:=∃(P:bQ) (M:aY),(∀r u,(dB P M)[r]? =some u→w.cell? ⟨g,j*18+r,none⟩=some u)∧yT w B P
theorem InM.keep {S:TypeId→Prop} {w w':World} {B g j:Nat} {tr:TypeId} {cur:Array Value} (h:InM w B g j) (hk:aS S w w') (hg:w.heap[g]? =some (.cells cur tr (0,0))) (hS:¬S tr):InM w' B g j:=by
 obtain ⟨P,M,h1,h2⟩:=h;exact ⟨P,M,fun r u hu=>(gW hk hg hS).trans (h1 r u hu),h2.keep hk⟩
theorem InM.other {S:TypeId→Prop} {w w':World} {B g j:Nat} (h:InM w B g j) (hk:aS S w w') (hc:∀r,r<18→w'.cell? ⟨g,j*18+r,none⟩=w.cell? ⟨g,j*18+r,none⟩):InM w' B g j:=by
 obtain ⟨P,M,h1,h2⟩:=h;exact ⟨P,M,fun r u hu=>(hc r (List.getElem?_eq_some_iff.1 hu).1).trans (h1 r u hu),h2.keep hk⟩
def zP (w:World) (B:Nat) (s:SlP):Prop:=(s.v=.slice none 0 0)∨∃g cur,s.A=some ⟨g,0,none⟩∧B≤g∧w.heap[g]? =some (.cells cur 49 (0,0))∧s.n≤s.c∧s.c≤maxLen∧cur.size=s.c*18∧∀j,j<s.n→InM w B g j
structure iA (M:aY):Prop where
 b:M.b.tx.length≤1000000
 h1:M.h.ba.length≤1000000
 h2:M.h.pa.length≤1000000
 c1:M.c.h.ba.length≤1000000
 c2:M.c.h.pa.length≤1000000
 c3:M.c.si.length≤1000000
 ds:M.ds.length≤1000000
theorem mN {w:World} {B k n:Nat} {t:TypeId} {s:SlP} {xs:List Value} (h:w.ownsRow B t k s.v n xs):s.n=n:=by
 rcases h.2 with ⟨e,e2⟩|⟨g,cap,cur,e,hb,hg,h1,h2,h3,_⟩
 · unfold SlP.v at e;injection e with e1 e2' e3;omega
 · unfold SlP.v at e;injection e with e1 e2' e3
theorem dS.rowsM {w:World} {B:Nat} {P:bQ} {M:aY} (h:dS w B P M) (hs:iA M):yT w B P:=
 ⟨gS h.b,by rw [mN (show World.ownsRow _ _ _ _ (SlP.v P.b) _ _ from h.b)];exact hs.b,gS h.h1,by rw [mN (show World.ownsRow _ _ _ _ (SlP.v P.h.b) _ _ from h.h1)];exact hs.h1,gS h.h2,by rw [mN (show World.ownsRow _ _ _ _ (SlP.v P.h.p) _ _ from h.h2)];exact hs.h2,gS h.c1,by rw [mN (show World.ownsRow _ _ _ _ (SlP.v P.c.h.b) _ _ from h.c1)];exact hs.c1,gS h.c2,by rw [mN (show World.ownsRow _ _ _ _ (SlP.v P.c.h.p) _ _ from h.c2)];exact hs.c2,gS h.c3,by rw [mN (show World.ownsRow _ _ _ _ (SlP.v P.c.s) _ _ from h.c3)];exact hs.c3,gS h.ds,by rw [mN (show World.ownsRow _ _ _ _ (SlP.v P.ds) _ _ from h.ds)];exact hs.ds⟩
theorem uB {w:World} {B:Nat} {s:SlP} {ps:List bQ} {l:List aY} (h:aP cT w B s.v ps l) (hs:∀x∈l,iA x):zP w B s:=by
 obtain ⟨h1,h2,h3⟩:=h;rcases h1.2 with ⟨e,_⟩|⟨g,cap,cur,e,hb,hg,a1,a2,a3,a4⟩
 · exact .inl e
 · unfold SlP.v at e;injection e with e1 e2 e3;refine .inr ⟨g,cur,e1,hb,hg,by omega,by omega,by rw [a3,e3];rfl,fun j hj=>?_⟩;have hjl:j<l.length:=by omega
   have hin:dS w B (ps.getD j default) (l.getD j default):=h3 j hjl;refine ⟨ps.getD j default,l.getD j default,fun r u hu=>?_,hin.rowsM (hs _ (cB hjl))⟩;have hr:r<18:=(List.getElem?_eq_some_iff.1 hu).1;have:=World.ownsRow.cells h1 (g:=g) (by unfold SlP.v;rw [e1];rfl) (j*18+r) u (by have h9:=cO cT h2 hjl (r:=r) hr;rw [show j*18+r=j*cT.k+r from rfl,h9];exact hu);simpa [Addr.add_lit] using this
theorem xB (x y:SlP) (u v:Int) (B:Nat) (w:World) (hx:lN w B 3 1 x) (hy:lN w B 3 1 y) (hxn:x.n≤1000000) (hyn:y.n≤1000000) (hB:B≤w.heap.size) :
 Calls prog 99 #[.agg #[u,v,x,y]] w fun e w'=>e=.returned (.tuple #[])∧Below B w w'∧aS (·=3) w w':=by
 have HX:=ħ hx;have HY:=ħ hy;clear hx hy;go_enter func99,ntmps99
 have hbX:Below w w (w.alloc (.cells #[u,v,x,y] 45)):=aJ;have hX:Blk (w.alloc (.cells #[u,v,x,y] 45)) w.heap.size 45 [u,v,x,y]:=Blk.new w 45 [u,v,x,y];go_wp2_with fail
 generalize (w.alloc (.cells #[u,v,x,y] 45))=X at *;refine nm w.heap.size fun N hN=>?_;rw [←hN] at hX ⊢;clear hN;have HKX:Hid (aS (·=3) w X):=ħ (.of_below hbX);have HXX:=ħ hX;have HBX:=ħ (hbX.mono hB);have hBX:B≤X.heap.size:=Nat.le_trans hB hbX.size;clear hX;refine (gA x B _ (HX.out.keep HKX.out) hxn hBX).mono ?_;rintro e w1 ⟨rfl,hb1,hk1⟩;have hX1:=HXX.out.keepS hk1 y5;have hX1l:=hX1.lt;have HK1:=ħ (HKX.out.trans hk1);have HB1:=ħ (HBX.out.trans hb1);have hB1:B≤w1.heap.size:=Nat.le_trans hB HB1.out.size;obtain ⟨a_0,a_1,a_2,a_3⟩:=bx4 hX1.box;clear hX1 hb1 hk1;go_wp2_with fail
 refine (gA y B _ (HY.out.keep HK1.out) hyn hB1).mono ?_;rintro e w2 ⟨rfl,hb2,hk2⟩;clear a_0 a_1 a_2 a_3;go_wp2_with fail
 go_end0
 exact ⟨rfl,HB1.out.trans hb2,HK1.out.trans hk2⟩
theorem D7 (x y z:SlP) (u v d:Int) (B:Nat) (w:World) (hx:lN w B 3 1 x) (hy:lN w B 3 1 y) (hz:lN w B 3 1 z) (hxn:x.n≤1000000) (hyn:y.n≤1000000) (hzn:z.n≤1000000) (hB:B≤w.heap.size) :
 Calls prog 100 #[.agg #[u,v,x,y,d,z]] w fun e w'=>e=.returned (.tuple #[])∧Below B w w'∧aS (·=3) w w':=by
 have HX:=ħ hx;have HY:=ħ hy;have HZ:=ħ hz;clear hx hy hz;go_enter func100,ntmps100
 have hbX:Below w w (w.alloc (.cells #[u,v,x,y,d,z] 47)):=aJ;have hX:Blk (w.alloc (.cells #[u,v,x,y,d,z] 47)) w.heap.size 47 [u,v,x,y,d,z]:=Blk.new w 47 [u,v,x,y,d,z];go_wp2_with fail
 generalize (w.alloc (.cells #[u,v,x,y,d,z] 47))=X at *;refine nm w.heap.size fun N hN=>?_;rw [←hN] at hX ⊢;clear hN;have HKX:Hid (aS (·=3) w X):=ħ (.of_below hbX);have HXX:=ħ hX;have HBX:=ħ (hbX.mono hB);have hBX:B≤X.heap.size:=Nat.le_trans hB hbX.size;clear hX;refine (xB x y u v B _ (HX.out.keep HKX.out) (HY.out.keep HKX.out) hxn hyn hBX).mono ?_;rintro e w1 ⟨rfl,hb1,hk1⟩;have hX1:=HXX.out.keepS hk1 y5;have hX1l:=hX1.lt;have HK1:=ħ (HKX.out.trans hk1);have HB1:=ħ (HBX.out.trans hb1);have hB1:B≤w1.heap.size:=Nat.le_trans hB HB1.out.size;obtain ⟨a_0,a_1,a_2,a_3,a_4,a_5⟩:=bx6 hX1.box;clear hX1 hb1 hk1;go_wp2_with fail
 refine (gA z B _ (HZ.out.keep HK1.out) hzn hB1).mono ?_;rintro e w2 ⟨rfl,hb2,hk2⟩;clear a_0 a_1 a_2 a_3 a_4 a_5;go_wp2_with fail
 go_end0
 exact ⟨rfl,HB1.out.trans hb2,HK1.out.trans hk2⟩
theorem uT:(prog.info? 49).map (fun i=>(i.zero,i.size,i.bytes))=some (some (.agg c18),18,256):=by kernel_rfl
theorem yI (w:World) (B g n cap:Nat) (cur:Array Value) (ty:TypeId) (hg:w.heap[g]? =some (.cells cur 49 (0,0))) (hcs:cur.size=cap*18) (hnc:n≤cap) (hcm:cap≤maxLen) (hB:B≤g) (hn:n≤1000000000) (vb:Nat) (e:List Value) (he:e.length=18) (h1e:∀u∈e,u.oneCell'=true) (hx:∀j u,e[j]? =some u→w.cell? ⟨vb,j,none⟩=some u) :
 ∃v' w',(Builtin.append_ #[68,68] ty #[.slice (some ⟨g,0,none⟩) n cap,.slice (some ⟨vb,0,none⟩) 1 1]).run prog w=.ok v' w'∧Below B w w'∧aS (·=49) w w':=by
 obtain ⟨i0,hi,hz,hz1,hz2⟩:=info_parts uT
 have hnews:∀j u,e[j]? =some u→w.cell? ((⟨vb,0,none⟩:Addr).add j)=some u:=fun j u hu=>by
  rw [Addr.add_lit,Nat.zero_add];exact hx j u hu
 have hgl:g<w.heap.size:=(Array.getElem?_eq_some_iff.1 hg).1;by_cases hroom:n+1≤cap
 · have hr:=run_append_room (P:=prog) w 68 ty 49 i0 underlying68 hi g n cap cur hg ⟨vb,0,none⟩ 1 1 e y31 hnews h1e hroom y31;refine ⟨_,_,hr,⟨rfl,rfl,rfl,by simp,fun k hk=>setRow_other w g k _ y2⟩,fun k c t hc=>?_⟩;by_cases h:k=g
   · subst h;rw [hg] at hc;injection hc with hc;injection hc with e1 e2 _;subst e1;subst e2;refine ⟨_,setRow_heap w k cur _ _ _ hg,?_,fun ht=>absurd rfl ht⟩;rw [hz1];simp only [List.size_toArray,List.length_append,List.length_take,List.length_drop,he,Array.length_toList];omega
   · exact ⟨c,(setRow_other w g k _ h).trans hc,rfl,fun _=>rfl⟩
 · have hnn:n=cap:=by omega
   have hold:∀j v,(cur.toList.take (n*18))[j]? =some v→w.cell? ((⟨g,0,none⟩:Addr).add j)=some v:=fun j v hj=>by
    rw [Addr.add_lit,Nat.zero_add];rw [List.getElem?_take] at hj;split at hj
    · simp [World.cell?,hg];simpa using hj
    · cases hj
   have hr:=run_append_grow (P:=prog) w 68 ty 49 i0 _ underlying68 hi hz ⟨g,0,none⟩ n cap (cur.toList.take (n*18)) y76 hold ⟨vb,0,none⟩ 1 1 e y31 hnews y2 y58 y39;have hb:Below w w (w.drew.alloc (.cells ((cur.toList.take (n*18)).toArray ++ e.toArray ++ Builtin.zeroCells (.agg c18:Value).cells (grownCap w (n+1) cap 49-(n+1))) 49)):=aB (aM (Below.refl _ _));exact ⟨_,_,hr,hb.mono y2,.of_below hb⟩
theorem uL {w:World} {ops:Array Oper} {rest:List Oper} {o:Oper} {a:Act} {Q:Exit→Act→World→Prop} (hgd:o.guard=none) (s x:Operand)
 (ho:o.op=.call {callee:=.builtin .append,args:=#[s,x],argTypes:=#[68,68]})
 (B g n cap:Nat) (cur:Array Value) (hs:a.eval s=.slice (some ⟨g,0,none⟩) n cap) (hg:w.heap[g]? =some (.cells cur 49 (0,0))) (hcs:cur.size=cap*18) (hnc:n≤cap) (hcm:cap≤maxLen) (hB:B≤g) (hn:n≤1000000000) (vb:Nat) (e:List Value) (he:e.length=18) (h1e:∀u∈e,u.oneCell'=true) (hx:a.eval x=.slice (some ⟨vb,0,none⟩) 1 1) (hc:∀j u,e[j]? =some u→w.cell? ⟨vb,j,none⟩=some u)
 (h:∀v' w',Below B w w'→aS (·=49) w w'→wpList prog ops Q rest (a.put o.dst v') w'):wpList prog ops Q (o :: rest) a w:=by
 obtain ⟨v',w',hrun,hb,hk⟩:=yI w B g n cap cur o.type hg hcs hnc hcm hB hn vb e he h1e hc;exact Lib.wpList_append_run w hgd s x _ _ ho _ _ hs hx _ _ hrun (h v' w' hb hk)
def zQ (t:TypeId):Prop:=t=41∨t=3∨t=49
theorem nK {g:Nat} {t:TypeId}:∀(vs:List Value) (o:Nat) (w:World) (cur:Array Value),w.heap[g]? =some (.cells cur t (0,0))→∃c':Array Value,(w.setCells g o vs).heap[g]? =some (.cells c' t (0,0))∧c'.size=cur.size
 | [],o,w,cur,h=>⟨cur,h,rfl⟩
 | v :: r,o,w,cur,h=>by
  rw [World.setCells];obtain ⟨c',h1,h2⟩:=nK r (o+1) _ _ (cC (o:=o) (v:=v) h);exact ⟨c',h1,by simpa using h2⟩
theorem nL {g:Nat} {t:TypeId}:∀(vs:List Value) (o:Nat) (w:World) (cur:Array Value),w.heap[g]? =some (.cells cur t (0,0))→aS (·=t) w (w.setCells g o vs)
 | [],o,w,cur,h=>.refl _ _
 | v :: r,o,w,cur,h=>by
  rw [World.setCells];exact (aS.set (S:=(·=t)) h rfl).trans (nL r (o+1) _ _ (cC (o:=o) (v:=v) h))
theorem uQ {n:Nat} {b:Nat} (hb:n≤b):∀(vs:List Value) (o:Nat) (w x:World),Below n w x→Below n w (x.setCells b o vs)
 | [],_,_,_,h=>h
 | v :: r,o,w,x,h=>by
  rw [World.setCells];exact uQ hb r (o+1) _ _ (h.setCell (p:=⟨b,o,none⟩) hb v)
theorem mQ {g p:Nat}:∀(vs:List Value) (o:Nat) (w:World),(p<o∨o+vs.length≤p)→(w.setCells g o vs).cell? ⟨g,p,none⟩=w.cell? ⟨g,p,none⟩
 | [],_,_,_=>rfl
 | v :: r,o,w,h=>by
  rw [World.setCells,mQ r (o+1) _ (by rw [List.length_cons] at h;omega)];have h2:=h;rw [List.length_cons] at h2;exact World.cell?_setCell_other _ _ _ _ y15
theorem iU (s:SlP) (B:Nat) (w:World) (hr:zP w B s) (hn:s.n≤1000000) (hB:B≤w.heap.size) :
 Calls prog 53 #[s] w fun e w'=>e=.returned (.tuple #[])∧Below B w w'∧aS zQ w w':=by
 obtain ⟨A,n,c⟩:=s;dsimp only at hn ⊢;rcases hr with h|⟨g,cur,h0,hgB,hg,h1,h2,h3,h4⟩
 · unfold SlP.v at h;injection h with e1 e2 e3;subst e1;subst e2;subst e3;go_enter func53,ntmps53
   go_wp2_with fail
   go_loop [2] (fun i=>i=.int .i64 0) (fun _=>0)
   case atStart=>rfl
   case round=>
    obtain rfl:=hrel;go_wp2_with (at_builtin;refine tT rfl (.tmp 38) (.tmp 40) rfl rfl w.heap.size _ [] [] rfl (aP.nil _ _) w.heap.size ⟨0,0,0,0,⟨0,0,[]⟩,⟨0,0,[],[]⟩,⟨⟨0,0,[],[]⟩,0,[]⟩,[]⟩ ⟨⟨none,0,0⟩,⟨⟨none,0,0⟩,⟨none,0,0⟩⟩,⟨⟨⟨none,0,0⟩,⟨none,0,0⟩⟩,⟨none,0,0⟩⟩,⟨none,0,0⟩⟩ rfl (bX.new w (dB ⟨⟨none,0,0⟩,⟨⟨none,0,0⟩,⟨none,0,0⟩⟩,⟨⟨⟨none,0,0⟩,⟨none,0,0⟩⟩,⟨none,0,0⟩⟩,⟨none,0,0⟩⟩ ⟨0,0,0,0,⟨0,0,[]⟩,⟨0,0,[],[]⟩,⟨⟨0,0,[],[]⟩,0,[]⟩,[]⟩) 49) ⟨bD.nil _ _,aE.nil _ _,aE.nil _ _,aE.nil _ _,aE.nil _ _,aE.nil _ _,aE.nil _ _⟩ y17 (fE (Nat.le_refl _)) ?_;intro v1 w1 hown1 hg1 hbel1)
    go_end0
    have hb:Below w w w1:=Below.trans ((Below.refl _ _).alloc (Nat.le_refl _) _) hbel1;exact ⟨rfl,hb.mono hB,.of_below hb⟩
 · dsimp only at h0 h1 h2 h3 h4;subst h0;go_enter func53,ntmps53
   go_wp2_with fail
   go_loopw [2] (fun i wr=>∃(k:Nat) (cr:Array Value),k≤n∧i=.int .i64 k∧wr.heap[g]? =some (.cells cr 49 (0,0))∧cr.size=c*18∧Hid (∀j,k≤j→j<n→InM wr B g j)∧Below B w wr∧aS zQ w wr) (fun i _=>n-(intOf i).toNat)
   case atStart=>exact ⟨0,cur,by omega,rfl,hg,h3,ħ (fun j _ hj=>h4 j hj),Below.refl _ _,.refl _ _⟩
   case round=>
    obtain ⟨k,cr,hk,rfl,hgr,hcr,HIN,hbw,hkw⟩:=hrel
    (obtain ⟨wk,hwk⟩:∃x,x=wr:=⟨_,rfl⟩);subst hwk
    have HK:=ħ hkw;have HB:=ħ hbw;have hBk:B≤wk.heap.size:=Nat.le_trans hB hbw.size;by_cases hlt:k<n
    · obtain ⟨⟨bP,⟨h1P,h2P⟩,⟨⟨c1P,c2P⟩,c3P⟩,dP⟩,M,hc,hrw⟩:=HIN.out k (Nat.le_refl _) hlt;have hgl:g<wk.heap.size:=(Array.getElem?_eq_some_iff.1 hgr).1;have HG:=ħ hgr;have HR:=ħ hrw;have HC:=ħ hc;have c6:=hc 6 _ rfl;clear hgr hkw hbw hrw hc;go_wp2_with fail
      refine (oC bP B _ HR.out.b HR.out.bn hBk).mono ?_;rintro e w5 ⟨rfl,hb5,hk5⟩;have HK5:Hid (aS zQ wk w5):=ħ (hk5.weak (fun t h=>.inl h));have HG5:=ħ (iD hk5 HG.out y5);have HC5:Hid (∀o,w5.cell? ⟨g,o,none⟩=wk.cell? ⟨g,o,none⟩):=ħ (fun o=>gW hk5 HG.out y5);have hl5:g<w5.heap.size:=(Array.getElem?_eq_some_iff.1 HG5.out).1;have HB5:=ħ (HB.out.trans hb5);have hs5:B≤w5.heap.size:=Nat.le_trans hBk hb5.size;have c7:=(HC5.out _).trans (HC.out 7 _ rfl);have c8:=(HC5.out _).trans (HC.out 8 _ rfl);have c9:=(HC5.out _).trans (HC.out 9 _ rfl);have c10:=(HC5.out _).trans (HC.out 10 _ rfl);clear c6 hb5 hk5;go_wp2_with fail
      refine (xB h1P h2P _ _ B _ (HR.out.h1.keep HK5.out) (HR.out.h2.keep HK5.out) HR.out.h1n HR.out.h2n hs5).mono ?_;rintro e w6 ⟨rfl,hb6,hk6⟩;have HK6:Hid (aS zQ wk w6):=ħ (HK5.out.trans (hk6.weak (fun t h=>.inr (.inl h))));have HG6:=ħ (iD hk6 HG5.out y5);have HC6:Hid (∀o,w6.cell? ⟨g,o,none⟩=wk.cell? ⟨g,o,none⟩):=ħ (fun o=>(gW hk6 HG5.out y5).trans (HC5.out o));have hl6:g<w6.heap.size:=(Array.getElem?_eq_some_iff.1 HG6.out).1;have HB6:=ħ (HB5.out.trans hb6);have hs6:B≤w6.heap.size:=Nat.le_trans hs5 hb6.size;have c11:=(HC6.out _).trans (HC.out 11 _ rfl);have c12:=(HC6.out _).trans (HC.out 12 _ rfl);have c13:=(HC6.out _).trans (HC.out 13 _ rfl);have c14:=(HC6.out _).trans (HC.out 14 _ rfl);have c15:=(HC6.out _).trans (HC.out 15 _ rfl);have c16:=(HC6.out _).trans (HC.out 16 _ rfl);clear c7 c8 c9 c10 hb6 hk6;go_wp2_with fail
      refine (D7 c1P c2P c3P _ _ _ B _ (HR.out.c1.keep HK6.out) (HR.out.c2.keep HK6.out) (HR.out.c3.keep HK6.out) HR.out.c1n HR.out.c2n HR.out.c3n hs6).mono ?_;rintro e w7 ⟨rfl,hb7,hk7⟩;have HK7:Hid (aS zQ wk w7):=ħ (HK6.out.trans (hk7.weak (fun t h=>.inr (.inl h))));have HG7:=ħ (iD hk7 HG6.out y5);have HC7:Hid (∀o,w7.cell? ⟨g,o,none⟩=wk.cell? ⟨g,o,none⟩):=ħ (fun o=>(gW hk7 HG6.out y5).trans (HC6.out o));have hl7:g<w7.heap.size:=(Array.getElem?_eq_some_iff.1 HG7.out).1;have HB7:=ħ (HB6.out.trans hb7);have hs7:B≤w7.heap.size:=Nat.le_trans hs6 hb7.size;have c17:=(HC7.out _).trans (HC.out 17 _ rfl);clear c11 c12 c13 c14 c15 c16 hb7 hk7;go_wp2_with fail
      refine (gA dP B _ (HR.out.ds.keep HK7.out) HR.out.dsn hs7).mono ?_;rintro e w8 ⟨rfl,hb8,hk8⟩;have hk8':aS zQ wk w8:=HK7.out.trans (hk8.weak (fun t h=>.inr (.inl h)));have hg8:=iD hk8 HG7.out y5;have hc8:∀o,w8.cell? ⟨g,o,none⟩=wk.cell? ⟨g,o,none⟩:=fun o=>(gW hk8 HG7.out y5).trans (HC7.out o);have hl8:g<w8.heap.size:=(Array.getElem?_eq_some_iff.1 hg8).1;have hb8':=HB7.out.trans hb8
      have hth:w8.there g (k*18) 18:=fun j hj=>by
       refine ⟨by simp [World.cell?,hg8,show k*18+j<cr.size by omega],by simp [World.frozen?,hg8]⟩
      have HTH:=ħ hth;obtain ⟨c',e1,e2⟩:=nK [.int .i64 (-9),z0,z0,z0,z0,z0,n0,z0,z0,n0,n0,z0,z0,n0,n0,z0,n0,n0] (k*18) w8 cr hg8;have hk9:=nL [.int .i64 (-9),z0,z0,z0,z0,z0,n0,z0,z0,n0,n0,z0,z0,n0,n0,z0,n0,n0] (k*18) w8 cr hg8
      have hin:∀j,k+1≤j→j<n→InM (w8.setCells g (k*18) [.int .i64 (-9),z0,z0,z0,z0,z0,n0,z0,z0,n0,n0,z0,z0,n0,n0,z0,n0,n0]) B g j:=fun j hj1 hj2=>by
       refine (HIN.out j y2 hj2).other (hk8'.trans (hk9.weak (fun t h=>.inr (.inr h)))) (fun r hr=>?_);rw [mQ _ _ _ (.inr (by simp only [List.length_cons,List.length_nil];omega))];exact hc8 _
      have hb9:=uQ (b:=g) hgB [.int .i64 (-9),z0,z0,z0,z0,z0,n0,z0,z0,n0,n0,z0,z0,n0,n0,z0,n0,n0] (k*18) _ _ hb8';refine nm (w8.setCells g (k*18) [.int .i64 (-9),z0,z0,z0,z0,z0,n0,z0,z0,n0,n0,z0,z0,n0,n0,z0,n0,n0]) fun W9 hW9=>?_;have HW9:=ħ hW9;rw [←hW9] at e1 hk9 hin hb9;have HE1:=ħ e1;have HE2:=ħ e2;have HK9:=ħ (HK.out.trans (hk8'.trans (hk9.weak (fun t h=>.inr (.inr h)))));have HI9:=ħ hin;have HB9:=ħ hb9;clear c17 hb8 hk8 hk8' hg8 hc8 hb8' hth e1 e2 hk9 hin hb9 hW9 HG HR HC HK5 HG5 HC5 HK6 HG6 HC6 HK7 HG7 HC7 HB5 HB6 HB7 hl5 hl6 hl7 hs5 hs6 hs7;go_upto_region 7 with fail
      refine wp_region_list ?_;simp only [List.toList_toArray]
      iterate 4 (refine pl ?_)
      refine wpList_store_mid rfl 49 _ _ rfl g (k*18) #[.int .i64 (-9),z0,z0,z0,z0,z0,n0,z0,z0,n0,n0,z0,z0,n0,n0,z0,n0,n0] y9 y9 HTH.out y8 y16 ?_;refine sp ?_;refine wpList_nil ?_
      try simp only [List.toList_toArray]
      rw [←HW9.out];go_wp2_with fail
      (refine rnd ?_;exact ⟨k+1,c',by omega,by go_num,HE1.out,by (rw [HE2.out];exact hcr),HI9,HB9.out,HK9.out⟩)
    · have hsz:=hbw.size;have hgl:g<wk.heap.size:=(Array.getElem?_eq_some_iff.1 hgr).1;have hgr2:(wk.alloc (.cells c18 49)).heap[g]? =some (.cells cr 49 (0,0)):=(((Below.refl wk.heap.size wk).alloc (Nat.le_refl _) _).block g hgl).trans hgr;have HG2:=ħ hgr2;have HBX:=ħ (bX.new wk c18 49);clear hgr hgr2 hkw hbw;go_wp2_with (at_builtin;refine uL rfl (.tmp 38) (.tmp 40) rfl B g n c cr rfl HG2.out hcr h1 h2 hgB y2 _ c18 rfl y5 rfl (fun j u hu=>HBX.out.2 j u hu) ?_;intro v1 w1 hb1 hk1)
      go_end0
      exact ⟨rfl,Below.trans (HB.out.trans (Below.mono (aB (Below.refl _ _)) y2)) hb1,HK.out.trans (aS.trans (.of_below (aB (Below.refl _ _))) (hk1.weak (fun t h=>.inr (.inr h))))⟩
end Go.Proofs.YtgfakefcmbpboaaGreat
