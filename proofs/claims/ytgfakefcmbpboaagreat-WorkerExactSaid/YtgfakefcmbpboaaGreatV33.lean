/- Part 33 of what WorkerExact leans on. No conditions. -/
import Derived.Test.YtgfakefcmbpboaaGreatV26
import Derived.Test.YtgfakefcmbpboaaGreatV32
namespace Go.Proofs.YtgfakefcmbpboaaGreat
set_option linter.all false
set_option maxRecDepth 100000
set_option maxHeartbeats 64000000
open _root_.Go.Proofs.Tryz Go.RowKit
open Tok
theorem D5 (l:List Int) (x:Int) (y:Bool) (h:cQ l x=y):decide (inS l x<0)=!y:=by
 subst h;unfold cQ;by_cases hm:x∈l
 · have:¬inS l x<0:=fun q=>iT.1 q hm;simp [hm,this]
 · have:inS l x<0:=iT.2 hm;simp [hm,this]
theorem Ef (P:aF) (D:aD) (A:Option Addr) (n c:Nat) (l:List Int) (w:World) (h:bG w P D) (hl:aL w A n l) (hn:n≤1000000) (hr:D.re.length≤1000000) (hs:dY D) :
 Calls prog 58 #[P.val D,.slice A n c] w fun e w'=>∃P',e=.returned (aF.val P' (inW D l))∧aX w' w.heap.size P' (inW D l)∧Below w w w':=by
 have H:=ħ h;have HS0:=ħ hs;have HL:=ħ hl;have HLN:Hid (l.length=n):=ħ hl.1;have HRE:Hid (aL w P.re.A P.re.n D.re):=ħ h.re;have hrn:P.re.n≤1000000:=by have e:=h.re.1;show P.re.n≤_;have e2:D.re.length=P.re.n:=e;omega
 clear h hl hr hs;show Calls prog 58 #[.agg (cW D P),.slice A n c] w _;go_enter func58,ntmps58
 go_wp2_with fail
 have hX1:Blk ((w.alloc (.cells (cW D P) 27)).alloc (.cells cZ 27)) w.heap.size 27 (cW D P):=(Blk.new w 27 (cW D P)).up (y0)
 have hX3:Blk ((w.alloc (.cells (cW D P) 27)).alloc (.cells cZ 27)) (w.heap.size+1) 27 cZ:=by
  have:=Blk.new (w.alloc (.cells (cW D P) 27)) 27 cZ;simpa using this
 have hbX:Below w w ((w.alloc (.cells (cW D P) 27)).alloc (.cells cZ 27)):=y0;generalize ((w.alloc (.cells (cW D P) 27)).alloc (.cells cZ 27))=X at *;have HX1:=ħ hX1;have HX3:=ħ hX3;clear hX1 hX3;refine (bK P D _ (H.out.up hbX) HS0.out).mono ?_;rintro e w1 ⟨⟨⟨oA2,on2,oc2⟩,⟨tA2,tn2,tc2⟩,⟨eA2,en2,ec2⟩,⟨rA2,rn2,rc2⟩⟩,he1,hO1,hb1⟩;simp only [aF.val] at he1;subst he1;have hb0:Below w1 w1 (w1.alloc (.cells (cV D oA2 on2 oc2 tA2 tn2 tc2 eA2 en2 ec2 rA2 rn2 rc2) 27)):=y0;have HX:Hid (Blk (w1.alloc (.cells (cV D oA2 on2 oc2 tA2 tn2 tc2 eA2 en2 ec2 rA2 rn2 rc2) 27)) w1.heap.size 27 (cV D oA2 on2 oc2 tA2 tn2 tc2 eA2 en2 ec2 rA2 rn2 rc2)):=ħ (Blk.new w1 27 (cV D oA2 on2 oc2 tA2 tn2 tc2 eA2 en2 ec2 rA2 rn2 rc2));have HY1:=ħ ((HX1.out.up hb1).up hb0);have HY3:=ħ ((HX3.out.up hb1).up hb0);have hsz1:w.heap.size+2≤w1.heap.size:=by have:=(HX3.out.up hb1).lt;omega
 have HO1:=ħ ((hO1.mono (B':=w.heap.size+2) (by have:=HX3.out.lt;omega)).up hb0);have hbY:=aA (aA hbX hb1) hb0;go_wp2_with fail
 refine nm w1.heap.size fun gx hgx=>?_;refine nm ((w1.alloc (.cells (cV D oA2 on2 oc2 tA2 tn2 tc2 eA2 en2 ec2 rA2 rn2 rc2) 27))) fun Y hY=>?_;rw [←hY,← hgx] at HX ⊢;rw [←hY] at HY1 HY3 HO1 hbY;rw [←hgx] at hsz1;clear hY hgx HX1 HX3 hO1 hb1 hb0 hbX
 go_loopw [6,7] (fun v ix wr=>∃k:Nat,k≤n∧ix=.int .i64 k∧Hid (aE wr Y.heap.size v (fsF D.re (l.take k)))∧Hid (Blk wr w.heap.size 27 (cW D P))∧Below Y Y wr) (fun _ ix _=>n-(intOf ix).toNat)
 case atStart=>exact ⟨0,Nat.zero_le _,rfl,ħ (aE.nil _ _),HY1,Below.refl _ _⟩
 case round=>
  obtain ⟨k,hk,rfl,HF,HB,hbw⟩:=hrel;have hbW:=hbY.trans (hbw.mono hbY.size)
  (obtain ⟨wk,hwk⟩:∃x,x=wr:=⟨_,rfl⟩);subst hwk
  have hfl:=Aq D.re l k (by rw [HLN.out];exact hk);refine mn (fsF D.re (l.take k)) fun acc hacc=>?_;rw [hacc] at HF hfl;obtain ⟨fA,fc,e,hI,hfB⟩:=HF.out.ints (by omega);subst e;refine mn acc.length fun fn hfn=>?_;rw [hfn] at HF hI hfl ⊢;have HFI:=ħ hI;have HFN:=ħ hfn;have HAC:=ħ hacc;have lb:=HB.out.lt;clear hI hfn hfB hacc;obtain ⟨a_0,a_1,a_2,a_3,a_4,a_5,a_6,a_7,a_8⟩:=bx9 HB.out.box;by_cases hlt:k<n
  · obtain ⟨b,off,rfl,hb,hc⟩:=(HL.out.up hbW).2.2 (by omega);have hck:=hc k hlt;refine mn (nth l k) fun d hd=>?_;rw [hd] at hck;have HST:Hid (fsF D.re (l.take (k+1))=stF D.re acc d):=ħ (by rw [AN _ _ (by rw [HLN.out];exact hlt),HAC.out,hd]);refine mn (fX d) fun y1 h1=>?_;refine mn (cQ D.re d) fun y2 h2=>?_;refine mn (cQ acc d) fun y3 h3=>?_;have H1:=ħ h1;have H2:=ħ h2;have H3:=ħ h3;clear hc hd h1 h2 h3;have hlk:(k:Int)<(n:Int):=by omega
    have HCL:Hid (∀Q,Below wk wk Q→(Q.cell? ⟨b,off+k,none⟩=some (.int .i64 d)∧Q.cell? ⟨w,8,none⟩=some (.slice P.re.A P.re.n P.re.c))):=ħ (fun Q hQ=>⟨(hQ.cell (p:=⟨b,off+k,none⟩) hb).trans hck,(HB.out.up hQ).box.2 8 _ rfl⟩);have hdr:=bdr wk;have HRD:=ħ (HRE.out.up (aA hbW hdr));have HFD:=ħ (HFI.out.up hdr);have hI2:=D5 D.re d _ H2.out;have hI3:=D5 acc d _ H3.out;obtain ⟨S,hSd⟩:∃S:World→Prop,S=fun Q=>Q.cell? ⟨b,off+k,none⟩=some (.int .i64 d)∧Q.cell? ⟨w,8,none⟩=some (.slice P.re.A P.re.n P.re.c):=⟨_,rfl⟩;have hS1:∀Q,S Q→Q.cell? ⟨b,off+k,none⟩=some (.int .i64 d):=fun Q h=>by rw [hSd] at h;exact h.1
    have hS2:∀Q,S Q→Q.cell? ⟨w,8,none⟩=some (.slice P.re.A P.re.n P.re.c):=fun Q h=>by rw [hSd] at h;exact h.2
    have hZ0:S wk.drew:=by rw [hSd];exact HCL.out _ hdr
    clear hSd hck;cases y1
    · have hs:fsF D.re (l.take (k+1))=acc:=by rw [HST.out];unfold stF;rw [if_neg (by rw [H1.out];simp)]
      have HS:=ħ hs;clear hs;go_upto_region 6 with fail
      refine wp_region_held_drew (S:=S) y8 hZ0 (fun hHeld=>?_);have hZ:=hHeld;generalize wk.drew=Z at *;refine tk 0 16 ?_;refine tk 1 17 ?_;refine tk 2 18 ?_;refine tq 3 19 hS1 ?_;refine ry 4 fun K hK=>?_;go_simp;(go_at_call 36;refine (dG d _ _ H1.out).mono ?_;rintro e w' ⟨rfl,rfl⟩)
      refine hkq hK (hZ) fun hHeld=>?_;clear hK K;refine tk 5 21 ?_;refine sk 6 22 ?_;refine sk 7 23 ?_;refine sk 8 24 ?_;refine sk 9 25 ?_;refine sk 10 26 ?_;refine sk 11 27 ?_;refine sk 12 28 ?_;refine sk 13 29 ?_;refine tk 14 30 ?_;refine tk 15 31 ?_;refine sk 16 32 ?_;refine sk 17 33 ?_;refine sk 18 34 ?_;refine sk 19 35 ?_;refine sk 20 36 ?_;refine sk 21 37 ?_;refine sk 22 38 ?_;refine tk 23 39 ?_;refine wz ?_;go_wp2_with fail
      (refine rnd ?_;exact ⟨k+1,by omega,by go_num,by (rw [HS.out];exact ħ (HF.out.up hdr)),ħ (HB.out.up hdr),aA hbw hdr⟩)
    · cases y2
      · cases y3
        · have hs:fsF D.re (l.take (k+1))=acc ++ [d]:=by rw [HST.out];unfold stF;rw [if_pos ⟨H1.out,H2.out,H3.out⟩]
          have HS:=ħ hs;clear hs;go_upto_region 6 with fail
          refine wp_region_held_drew (S:=S) y8 hZ0 (fun hHeld=>?_);have hZ:=hHeld;generalize wk.drew=Z at *;refine tk 0 16 ?_;refine tk 1 17 ?_;refine tk 2 18 ?_;refine tq 3 19 hS1 ?_;refine ry 4 fun K hK=>?_;go_simp;(go_at_call 36;refine (dG d _ _ H1.out).mono ?_;rintro e w' ⟨rfl,rfl⟩)
          refine hkq hK (hZ) fun hHeld=>?_;clear hK K;refine tk 5 21 ?_;refine tk 6 22 ?_;refine tq 7 23 hS2 ?_;refine tk 8 24 ?_;refine tk 9 25 ?_;refine tk 10 26 ?_;refine tq 11 27 hS1 ?_;refine ry 12 fun K hK=>?_;go_simp;(go_at_call 70;refine (eT P.re.A P.re.n P.re.c D.re d _ HRD.out).mono ?_;rintro e w' ⟨rfl,rfl⟩)
          refine hkq hK (hZ) fun hHeld=>?_;clear hK K;refine tk 13 29 ?_;refine tk 14 30 ?_;refine tk 15 31 ?_;refine tk 16 32 ?_;refine tk 17 33 ?_;refine tk 18 34 ?_;refine tk 19 35 ?_;refine tq 20 36 hS1 ?_;refine ry 21 fun K hK=>?_;go_simp;(go_at_call 70;refine (eT fA fn fc acc d _ HFD.out).mono ?_;rintro e w' ⟨rfl,rfl⟩)
          refine hkq hK (hZ) fun hHeld=>?_;clear hK K;refine tk 22 38 ?_;refine tk 23 39 ?_;refine wz ?_;have HBz:=ħ (HB.out.up hdr);have HFz:=ħ (HF.out.up hdr);have hbz:=aA hbw hdr;have q1:=hS1 _ hZ;clear HRD HFD;go_wp2_with (at_builtin;refine fJ rfl (.tmp 40) (.tmp 45) rfl Y.heap.size (.slice fA fn fc) acc rfl (HFz.out.alloc _) _ d rfl (eH _ _ _) (by rw [HFN.out];omega) (fE hbz.size) ?_;intro v1 w7 hown7 hg7 hbel7 hat7)
          (refine rnd ?_;exact ⟨k+1,by omega,by go_num,by (rw [HS.out];exact ħ hown7),ħ ((HBz.out.up (aB (Below.refl _ _))).below hbel7 HY1.out.lt),(hbz.trans ((aB (Below.refl _ _)).mono hbz.size)).trans hbel7⟩)
        · have hs:fsF D.re (l.take (k+1))=acc:=by rw [HST.out];unfold stF;rw [if_neg (by rw [H3.out];simp)]
          have HS:=ħ hs;clear hs;go_upto_region 6 with fail
          refine wp_region_held_drew (S:=S) y8 hZ0 (fun hHeld=>?_);have hZ:=hHeld;generalize wk.drew=Z at *;refine tk 0 16 ?_;refine tk 1 17 ?_;refine tk 2 18 ?_;refine tq 3 19 hS1 ?_;refine ry 4 fun K hK=>?_;go_simp;(go_at_call 36;refine (dG d _ _ H1.out).mono ?_;rintro e w' ⟨rfl,rfl⟩)
          refine hkq hK (hZ) fun hHeld=>?_;clear hK K;refine tk 5 21 ?_;refine tk 6 22 ?_;refine tq 7 23 hS2 ?_;refine tk 8 24 ?_;refine tk 9 25 ?_;refine tk 10 26 ?_;refine tq 11 27 hS1 ?_;refine ry 12 fun K hK=>?_;go_simp;(go_at_call 70;refine (eT P.re.A P.re.n P.re.c D.re d _ HRD.out).mono ?_;rintro e w' ⟨rfl,rfl⟩)
          refine hkq hK (hZ) fun hHeld=>?_;clear hK K;refine tk 13 29 ?_;refine tk 14 30 ?_;refine tk 15 31 ?_;refine tk 16 32 ?_;refine tk 17 33 ?_;refine tk 18 34 ?_;refine tk 19 35 ?_;refine tq 20 36 hS1 ?_;refine ry 21 fun K hK=>?_;go_simp;(go_at_call 70;refine (eT fA fn fc acc d _ HFD.out).mono ?_;rintro e w' ⟨rfl,rfl⟩)
          refine hkq hK (hZ) fun hHeld=>?_;clear hK K;refine tk 22 38 ?_;refine tk 23 39 ?_;refine wz ?_;go_wp2_with fail
          (refine rnd ?_;exact ⟨k+1,by omega,by go_num,by (rw [HS.out];exact ħ (HF.out.up hdr)),ħ (HB.out.up hdr),aA hbw hdr⟩)
      · have hs:fsF D.re (l.take (k+1))=acc:=by rw [HST.out];unfold stF;rw [if_neg (by rw [H2.out];simp)]
        have HS:=ħ hs;clear hs;go_upto_region 6 with fail
        refine wp_region_held_drew (S:=S) y8 hZ0 (fun hHeld=>?_);have hZ:=hHeld;generalize wk.drew=Z at *;refine tk 0 16 ?_;refine tk 1 17 ?_;refine tk 2 18 ?_;refine tq 3 19 hS1 ?_;refine ry 4 fun K hK=>?_;go_simp;(go_at_call 36;refine (dG d _ _ H1.out).mono ?_;rintro e w' ⟨rfl,rfl⟩)
        refine hkq hK (hZ) fun hHeld=>?_;clear hK K;refine tk 5 21 ?_;refine tk 6 22 ?_;refine tq 7 23 hS2 ?_;refine tk 8 24 ?_;refine tk 9 25 ?_;refine tk 10 26 ?_;refine tq 11 27 hS1 ?_;refine ry 12 fun K hK=>?_;go_simp;(go_at_call 70;refine (eT P.re.A P.re.n P.re.c D.re d _ HRD.out).mono ?_;rintro e w' ⟨rfl,rfl⟩)
        refine hkq hK (hZ) fun hHeld=>?_;clear hK K;refine tk 13 29 ?_;refine tk 14 30 ?_;refine tk 15 31 ?_;refine sk 16 32 ?_;refine sk 17 33 ?_;refine sk 18 34 ?_;refine sk 19 35 ?_;refine sk 20 36 ?_;refine sk 21 37 ?_;refine sk 22 38 ?_;refine tk 23 39 ?_;refine wz ?_;go_wp2_with fail
        (refine rnd ?_;exact ⟨k+1,by omega,by go_num,by (rw [HS.out];exact ħ (HF.out.up hdr)),ħ (HB.out.up hdr),aA hbw hdr⟩)
  · obtain rfl:k=n:=by omega
    have hd1:decide ((k:Int)<(k:Int))=false:=by simp
    have hE:acc=fsF D.re l:=by rw [←HAC.out,← HLN.out,List.take_length]
    have HE:=ħ hE;have hGX:=HX.out.up hbw;have hGR:=HY3.out.up hbw;have lgx:=hGX.lt;have fgx:=hGX.frozen;have lgr:=hGR.lt;have fgr:=hGR.frozen;obtain ⟨x_0,x_1,x_2,x_3,x_4,x_5,x_6,x_7,x_8⟩:=bx9 hGX.box;have hRE2:aL wk rA2 rn2 D.re:=(HO1.out.work HS0.out).re.up hbw;have hgx0:gx<Y.heap.size:=HX.out.lt;have hgr0:w.heap.size+1<Y.heap.size:=HY3.out.lt;have hsz:=hbw.size;have hre:D.re.length=P.re.n:=HRE.out.1;have hre2:D.re.length=rn2:=hRE2.1;have HRE2:=ħ hRE2;have HGX:=ħ hGX;have HGR:=ħ hGR;have hlen:acc.length+rn2≤900000000:=by rw [HFN.out];omega
    have hlen2:(acc ++ D.re).length≤900000000:=by simp;omega
    have HLEN:=ħ hlen;have HLEN2:=ħ hlen2;clear hE hGX hGR hRE2 hre hre2 hlen hlen2 a_0 a_1 a_2 a_3 a_4 a_5 a_6 a_7 a_8;go_upto_region 8 with fail
    go_wp2_with (at_builtin;refine uX rfl (.tmp 47) (.tmp 49) rfl rfl Y.heap.size (.slice fA fn fc) acc rfl HF.out rA2 rn2 rc2 D.re rfl HRE2.out HLEN.out hsz ?_;intro v1 w7 hown7 hg7 hbel7 hat7;obtain ⟨sA,sc,e7,hI7,_⟩:=hown7.ints (Nat.le_trans HLEN2.out y5);(obtain ⟨sn,hsn⟩:∃x,(acc ++ D.re).length=x:=⟨_,rfl⟩);rw [hsn] at e7;subst e7;clear hsn;have HO7:=ħ hown7;have hX7:=HGX.out.below hbel7 hgx0;have hR7:=HGR.out.below hbel7 hgr0;have l7:=hX7.lt;have l8:=hR7.lt;have f7:=hX7.frozen;have f8:=hR7.frozen;clear x_0 x_1 x_2 x_3 x_4 x_5 x_6 x_7 x_8 lgx fgx lgr fgr hown7 hg7 hat7 hI7;obtain ⟨b_0,b_1,b_2,b_3,b_4,b_5,b_6,b_7,b_8⟩:=bx9 hX7.box;obtain ⟨z_0,z_1,z_2,z_3,z_4,z_5,z_6,z_7,z_8⟩:=bx9 hR7.box;have HX7:=ħ hX7;clear hX7 hR7)
    have hY7:=hbw.trans hbel7;have hW0:aX w7 (w.heap.size+2) ⟨⟨oA2,on2,oc2⟩,⟨tA2,tn2,tc2⟩,⟨eA2,en2,ec2⟩,⟨rA2,rn2,rc2⟩⟩ D:=HO1.out.up hY7;have hW7:aX w7 (w.heap.size+2) ⟨⟨oA2,on2,oc2⟩,⟨tA2,tn2,tc2⟩,⟨eA2,en2,ec2⟩,⟨sA,sn,sc⟩⟩ (inW D l):=⟨hW0.op,hW0.wa,hW0.he,by (show aE w7 (w.heap.size+2) (.slice sA sn sc) (fsF D.re l ++ D.re));(rw [←HE.out]);exact HO7.out.mono (by omega)⟩;have hW8:=hW7.tk (aC.setg (o:=8) (u:=.slice sA sn sc) HX7.out) aU;have hW9:=(hW8.low9 (g:=w.heap.size+1) (by omega) (.int .i64 D.id) (.int .i64 D.nodes) (.int .i64 D.next) (.slice oA2 on2 oc2) (.int .i64 D.age) (.int .i64 D.clock) (.slice tA2 tn2 tc2) (.slice eA2 en2 ec2) (.slice sA sn sc)).mono (B':=w.heap.size) (by omega);have HW9:=ħ hW9;have hbe:Below w w w7:=hbY.trans (hY7.mono (by omega));have HBE:=ħ hbe;have hgx1:gx≠w.heap.size+1:=by omega
    have hgx2:¬w.heap.size+1=gx:=by omega
    have hgx3:w.heap.size+1<gx:=by omega
    clear hW0 hW7 hW8 hW9 hbe hY7 hbel7 hbw;go_wp2_with fail
    exact bodyPost_ret (v:=.agg (cV D oA2 on2 oc2 tA2 tn2 tc2 eA2 en2 ec2 sA sn sc)) (by simp [results,results58,go_sem, *]) rfl ⟨⟨⟨oA2,on2,oc2⟩,⟨tA2,tn2,tc2⟩,⟨eA2,en2,ec2⟩,⟨sA,sn,sc⟩⟩,rfl,HW9.out,y14⟩
theorem Fn {G:aD→Prop} (P:aF) (D:aD) (MP:bQ) (SP:SlP) (a:kF) (w:World) (h:bG w P D) (hs:dY D) (hdo:wiI a.doo 11=10) (hi:aL w SP.A SP.n a.l) (hn:SP.n≤200000) (hnr:D.re.length≤200000) (hbg:dY (inW D a.l)) (hrl:(inW D a.l).re.length≤1000000)
 (hsm:D.op.length≤1000000∧D.wa.length≤1000000∧D.he.length≤1000000∧(∀x∈D.wa,x.ak.length≤1000000)∧(∀x∈D.he,x.b.tx.length≤1000000)) (hG0:G D) (hG1:G (inW D a.l)) :
 Calls prog 21 #[P.val D,J26 MP SP a] w (iP w P D G):=by
 have H:=ħ h;have HS:=ħ hs;have HDO:=ħ hdo;have HLN:Hid (a.l.length=SP.n):=ħ hi.1;have HSP:=ħ hi;have HN:=ħ hn;have HNR:=ħ hnr;have HBG:=ħ hbg;have HRL:=ħ hrl;have HSM:=ħ hsm;clear h hs hdo hi hn hnr hbg hrl hsm;show Calls prog 21 #[.agg (cW D P),.agg (cJ a MP SP)] w _;go_enter func21,ntmps21
 refine mn (dZ D) fun z hz=>?_;have HZ:=ħ hz;clear hz;go_wp2_with fail
 have hX1:Blk (((w.alloc (.cells (cW D P) 27)).alloc (.cells (cJ a MP SP) 51)).alloc (.cells cZ 27)) w.heap.size 27 (cW D P):=(Blk.new w 27 (cW D P)).up (aJ)
 have hX2:Blk (((w.alloc (.cells (cW D P) 27)).alloc (.cells (cJ a MP SP) 51)).alloc (.cells cZ 27)) (w.heap.size+1) 51 (cJ a MP SP):=by
  have:=(Blk.new (w.alloc (.cells (cW D P) 27)) 51 (cJ a MP SP)).up (w':=(((w.alloc (.cells (cW D P) 27)).alloc (.cells (cJ a MP SP) 51)).alloc (.cells cZ 27))) (aJ);simpa using this
 have hX3:Blk (((w.alloc (.cells (cW D P) 27)).alloc (.cells (cJ a MP SP) 51)).alloc (.cells cZ 27)) (w.heap.size+2) 27 cZ:=by
  have:=Blk.new ((w.alloc (.cells (cW D P) 27)).alloc (.cells (cJ a MP SP) 51)) 27 cZ;simpa using this
 have hbX:Below w w (((w.alloc (.cells (cW D P) 27)).alloc (.cells (cJ a MP SP) 51)).alloc (.cells cZ 27)):=aJ;generalize (((w.alloc (.cells (cW D P) 27)).alloc (.cells (cJ a MP SP) 51)).alloc (.cells cZ 27))=X at *;have HX1:=ħ hX1;have HX2:=ħ hX2;have HX3:=ħ hX3;have HBX:=ħ hbX;clear hX1 hX2 hX3;refine (bK P D _ (H.out.up hbX) HS.out).mono ?_;rintro e w1 ⟨Pi,he1,hOi,hb1⟩;simp only [aF.val] at he1;subst he1;have hbI:Below w1 w1 (w1.alloc (.cells (cW D Pi) 27)):=aJ;have hY1:=(HX1.out.up hb1);have HOi:=ħ (hOi.up hbI);have HI:=ħ (Blk.new w1 27 (cW D Pi));have HY2:=ħ ((HX2.out.up hb1).up hbI);have HY3:=ħ ((HX3.out.up hb1).up hbI);have HY1:=ħ (hY1.up hbI);have hbY:=aA (aA hbX hb1) hbI;have ly1:=hY1.lt;obtain ⟨a_0,a_1,a_2,a_3,a_4,a_5,a_6,a_7,a_8⟩:=bx9 hY1.box;have hzX:w.heap.size+3≤w1.heap.size:=by have:=(HX3.out.up hb1).lt;omega
 clear hY1 HX1 HX2 HX3 hOi hb1 hbI hbX HBX;go_wp2_with fail
 clear a_0 a_1 a_2 a_3 a_4 a_5 a_6 a_7 a_8 ly1;have hgiE:w1.heap.size<(w1.alloc (.cells (cW D Pi) 27)).heap.size:=HI.out.lt;refine nm w1.heap.size fun gi hgi=>?_;refine nm ((w1.alloc (.cells (cW D Pi) 27))) fun X1 hX1=>?_;rw [←hX1,← hgi] at HI;rw [←hX1] at HOi HY1 HY2 HY3 hbY;rw [←hX1,← hgi];rw [←hX1,← hgi] at hgiE;rw [←hgi] at hzX;clear hX1 hgi;refine (eZ P D z _ (H.out.up hbY) HZ.out).mono ?_;rintro e w2 ⟨rfl,hb2⟩;have hA2:=HY2.out.up hb2;have b_0:=hA2.box.2 0 _ rfl;have lA2:=hA2.lt;have lA1:w.heap.size<w2.heap.size:=by omega
 clear hA2;go_upto_region 48 with (go_at_call 40;refine (fQ a.doo 11 10 _ y5 y5 HDO.out).mono ?_;rintro e w' ⟨rfl,rfl⟩)
 clear b_0 lA2 lA1;have hbz:Below w2 w2 ((w2.alloc (.cells cY 70)).alloc (.cells cZ 27)):=aJ;have hs0:Blk ((w2.alloc (.cells cY 70)).alloc (.cells cZ 27)) w2.heap.size 70 cY:=(Blk.new w2 70 cY).up (aJ)
 have hx0:Blk ((w2.alloc (.cells cY 70)).alloc (.cells cZ 27)) (w2.heap.size+1) 27 cZ:=by
  have:=Blk.new (w2.alloc (.cells cY 70)) 27 cZ;simpa using this
 refine nm (w2.heap.size+1) fun gx hgx=>?_;rw [←hgx] at hx0 ⊢;refine nm w2.heap.size fun gs hgs=>?_;rw [←hgs] at hs0 ⊢;refine nm (((w2.alloc (.cells cY 70)).alloc (.cells cZ 27))) fun Y hY=>?_;rw [←hY] at hbz hs0 hx0 ⊢;have hgisz:=(HI.out.up hb2).lt;have hgis:gi<gs:=by omega
 have hgsx:gs<gx:=by omega
 have hgw:w.heap.size+2<gi:=by omega
 have HU1:=ħ ((HY1.out.up hb2).up hbz);have HU2:=ħ ((HY2.out.up hb2).up hbz);have HU3:=ħ ((HY3.out.up hb2).up hbz);have HUi:=ħ ((HI.out.up hb2).up hbz);have HUs:=ħ hs0;have HUx:=ħ hx0;have HOI:=ħ ((HOi.out.up hb2).up hbz);have hbU:=aA (aA hbY hb2) hbz;clear hY hgx hgs hs0 hx0 hbz hgisz hgiE hzX HY1 HY2 HY3 HI HOi hbY hb2;cases z
 · skip
   go_upto_region 50 with fail
   have HPi:=ħ (HOI.out.work HS.out);have HGi:=HUi;have HG2:=HU2;have HGx:=HUx;have hbB:=hbU;obtain ⟨S,hSd⟩:∃S:World→Prop,S=fun Q=>Blk Q gi 27 (cW D Pi)∧Blk Q (w.heap.size+1) 51 (cJ a MP SP):=⟨_,rfl⟩;have hS:∀Q,Below Y Y Q→S Q:=fun Q hQ=>by rw [hSd];exact ⟨HGi.out.up hQ,HG2.out.up hQ⟩
   have hS3:∀Q,S Q→Q.rangeAt gi 0 (cW D Pi):=fun Q h=>by rw [hSd] at h;exact fun j u hu=>by (rw [Nat.zero_add]);exact h.1.box.2 j u hu
   have hS5:∀Q,S Q→Q.cell? ⟨w.heap.size+1,25,none⟩=some (.slice SP.A SP.n SP.c):=fun Q h=>by rw [hSd] at h;exact h.2.box.2 25 _ rfl
   have hSr:∀Q,S Q→∀(a0 a1 a2 a3 a4 a5 a6 a7 a8:Value),S (kA Q gx a0 a1 a2 a3 a4 a5 a6 a7 a8):=fun Q h a0 a1 a2 a3 a4 a5 a6 a7 a8=>by rw [hSd] at h ⊢;exact ⟨h.1.sets9 y2 a0 a1 a2 a3 a4 a5 a6 a7 a8,h.2.sets9 y2 a0 a1 a2 a3 a4 a5 a6 a7 a8⟩
   clear hSd;refine hd hS fun hHeld=>?_;have hbd:=bdr Y;have hZ:=hHeld;generalize Y.drew=Z at *;refine ld 0 191 hS3 underlying27 ?_;refine tk 1 192 ?_;refine tq 2 193 hS5 ?_;refine ry 3 fun K hK=>?_;go_simp;(go_at_call 29;refine (bN SP.A SP.n SP.c a.l _ (HSP.out.up (aA hbB hbd)) (Nat.le_trans HN.out y5)).mono ?_;rintro e wn ⟨v,rfl,ho,hbn⟩;obtain ⟨nA,nc,e7,hI,_⟩:=ho.ints (Nat.le_trans (Nat.le_of_eq HLN.out) (Nat.le_trans HN.out y5));rw [HLN.out] at e7 hI;subst e7)
   have hbn2:=aA hbd hbn;have HNI:=ħ hI;clear ho hI;refine hkq hK (hS _ hbn2) fun hHeld=>?_;clear hK K;refine ry 4 fun K hK=>?_;go_simp;(go_at_call 59;refine (zK Pi D nA SP.n nc a.l false _ (HPi.out.up hbn2) HS.out HZ.out HNI.out (Nat.le_trans HN.out y5) (Nat.le_trans HNR.out y5)).mono ?_;rintro e wa ⟨he,hba0⟩;rw [if_neg y5] at he;simp only [aF.val,jF] at he;subst he)
   have hba:=aA hbn2 hba0;refine hkq hK (hS _ hba) fun hHeld=>?_;clear hK K;refine tk 5 190 ?_;refine tk 6 196 ?_;refine tk 7 197 ?_;refine ry 8 fun K hK=>?_;have HXa:=ħ (HGx.out.up hba);have hR:=HXa.out;have qf:=hR.frozen;have ql:=hR.lt;have h9:=hR.box;obtain ⟨q0,q1,q2,q3,q4,q5,q6,q7,q8⟩:=bx9 h9;clear h9 hR;go_simp;clear qf ql q0 q1 q2 q3 q4 q5 q6 q7 q8;refine hkq hK (nZ (hSr _ (hS _ hba))) fun hHeld=>?_;clear hK K;refine tk 9 12 ?_;refine wz ?_;have hli:=HUi.out.lt;have hXa:=HXa.out;have fXa:=hXa.frozen;have lXa:=hXa.lt;clear hXa;go_upto_region 53 with fail
   rename_i K9 hK9;refine nm wa.heap.size fun gq hgq=>?_;refine nm (((kZ wa gx:World).alloc (.cells cY 70))) fun W hW=>?_;have hal:Below (kZ wa gx:World).heap.size (kZ wa gx) W:=by rw [hW];exact aB (Below.refl _ _)
   have hqB:Blk W gq 70 cY:=by
    rw [hW,hgq];have:=Blk.new (kZ wa gx) 70 cY;simpa [World.setCell] using this
   rw [←hW,← hgq];clear hW hgq;have hsx:=nZ (gF HXa.out rfl);have htk:aC 27 Y W:=(aC.of_below hba).trans ((nZ (aC.sets9 HXa.out)).trans (aC.of_below hal));have hblk:∀g t cs,Blk Y g t cs→g≠gx→Blk W g t cs:=fun g t cs h hne=>(nZ ((h.up hba).sets9 hne)).up hal;have hbWw:Below w w W:=(nZ (bU (aA hbU hba) y2)).trans (hal.mono y40);have hBW:Y.heap.size≤W.heap.size:=by have h2:=hba.size;have h3:=hal.size;simp [World.setCell] at h3;omega
   have l1:=HU1.out.lt;have l3:=HU3.out.lt;have hwB:=hbU.size
   exact dX w W Y.heap.size w.heap.size (w.heap.size+1+1) gi gq gx P Pi jG jG D cH 1 y47 none none 0 0 0 0 hK9 hbWw hwB hBW y2 l3 y2 y2 (by intro e;rw [e] at hqB;have h9:=hblk _ _ _ HU3.out y2;have h8:W.heap[w.heap.size+1+1]? =some (.cells cY 70 (0,0)):=hqB;have h7:W.heap[w.heap.size+1+1]? =some (.cells cZ 27 (0,0)):=h9;rw [h8] at h7;simp at h7)
    (fun Y' hY'=>⟨H.out.up (hbWw.trans (hY'.mono hwB)),(HOI.out.tk (cI htk hY') aU).work HS.out,(hblk _ _ _ HU1.out y2).below hY' l1,(hblk _ _ _ HUi.out y2).below hY' hli,(hblk _ _ _ HU3.out y2).below hY' l3⟩)
    (fun Y' hY'=>⟨lY _,hqB.up hY'⟩) (fun h=>absurd h y5)
    (fun h=>absurd h y5)
    (hsx.up hal) (jS _ _) gC y5 y5 y5 y5 (fun x hx=>by simp [cH] at hx) (fun x hx=>by simp [cH] at hx)
    (fun Y' hY'=>bO none 0 0 none 0 0 [] Y' (eJ.nil _) (eJ.nil _)) (fun Y' hY' hk=>(cG Y').mono fun e w' h=>⟨h.1,h.2.mono (Nat.le_trans hBW hY'.size)⟩)
 · skip
   go_upto_region 49 with fail
   have lx1:=HU1.out.lt;have lx2:=HU2.out.lt;have b_25:=HU2.out.box.2 25 _ rfl;obtain ⟨a_0,a_1,a_2,a_3,a_4,a_5,a_6,a_7,a_8⟩:=bx9 HU1.out.box;go_upto_region 50 with (go_at_call 58;refine (Ef P D SP.A SP.n SP.c a.l _ (H.out.up hbU) (HSP.out.up hbU) (Nat.le_trans HN.out y5) (Nat.le_trans HNR.out y5) HS.out).mono ?_;rintro e w6 ⟨P5,he,hO6,hb6⟩;simp only [aF.val] at he;subst he;have hs6:=HUs.out.up hb6;have f6:=hs6.frozen;have l6:=hs6.lt;obtain ⟨s_0,s_1,s_2,s_3,s_4,s_5,s_6,s_7,s_8,s_9⟩:=gO hs6.box;have HS6:=ħ hs6;have HO60:=ħ hO6;clear hs6 hO6)
   have hG6:Blk (kW w6 gs (inW D a.l) P5) gs 70 (cS (inW D a.l) P5 none 0 0):=((((((((HS6.out.set_ 0 _).set_ 1 _).set_ 2 _).set_ 3 _).set_ 4 _).set_ 5 _).set_ 6 _).set_ 7 _).set_ 8 _;have htk6:=nW (inW D a.l) P5 (aC.sets9 HS6.out);have hO6:=HO60.out.tkR htk6;have hbut6:But Y.heap.size gs Y (kW w6 gs (inW D a.l) P5):=(((((((((But.of_below hb6).setg).setg).setg).setg).setg).setg).setg).setg).setg;refine nm (kW w6 gs (inW D a.l) P5:World) fun Yc hYc=>?_;rw [←hYc] at hG6 hO6 hbut6 ⊢;clear hYc htk6 HS6 HO60 a_0 a_1 a_2 a_3 a_4 a_5 a_6 a_7 a_8 s_0 s_1 s_2 s_3 s_4 s_5 s_6 s_7 s_8 s_9 f6 l6 lx1 lx2 b_25 hb6;have HGs:=ħ hG6;have HO5:=ħ hO6;clear hG6 hO6;have HG1:=ħ (But.blk hbut6 HU1.out HU1.out.lt y2);have HG2:=ħ (But.blk hbut6 HU2.out HU2.out.lt y2);have HG3:=ħ (But.blk hbut6 HU3.out HU3.out.lt y2);have HGi:=ħ (But.blk hbut6 HUi.out HUi.out.lt y2);have HGx:=ħ (But.blk hbut6 HUx.out HUx.out.lt y2);have HGO:=ħ (HOI.out.tkR (aC.of_but HUs.out hbut6));have hbB:Below w w Yc:=hbU.trans ((hbut6.below (Nat.le_of_lt HUs.out.lt)).mono y2);have HPi:=ħ (HGO.out.work HS.out);clear HU1 HU2 HU3 HUi HUs HUx HOI hbU hbut6;obtain ⟨S,hSd⟩:∃S:World→Prop,S=fun Q=>Blk Q gi 27 (cW D Pi)∧Blk Q (w.heap.size+1) 51 (cJ a MP SP):=⟨_,rfl⟩;have hS:∀Q,Below Yc Yc Q→S Q:=fun Q hQ=>by rw [hSd];exact ⟨HGi.out.up hQ,HG2.out.up hQ⟩
   have hS3:∀Q,S Q→Q.rangeAt gi 0 (cW D Pi):=fun Q h=>by rw [hSd] at h;exact fun j u hu=>by (rw [Nat.zero_add]);exact h.1.box.2 j u hu
   have hS5:∀Q,S Q→Q.cell? ⟨w.heap.size+1,25,none⟩=some (.slice SP.A SP.n SP.c):=fun Q h=>by rw [hSd] at h;exact h.2.box.2 25 _ rfl
   have hSr:∀Q,S Q→∀(a0 a1 a2 a3 a4 a5 a6 a7 a8:Value),S (kA Q gx a0 a1 a2 a3 a4 a5 a6 a7 a8):=fun Q h a0 a1 a2 a3 a4 a5 a6 a7 a8=>by rw [hSd] at h ⊢;exact ⟨h.1.sets9 y2 a0 a1 a2 a3 a4 a5 a6 a7 a8,h.2.sets9 y2 a0 a1 a2 a3 a4 a5 a6 a7 a8⟩
   clear hSd;refine hd hS fun hHeld=>?_;have hbd:=bdr Yc;have hZ:=hHeld;generalize Yc.drew=Z at *;refine ld 0 191 hS3 underlying27 ?_;refine tk 1 192 ?_;refine tq 2 193 hS5 ?_;refine ry 3 fun K hK=>?_;go_simp;(go_at_call 29;refine (bN SP.A SP.n SP.c a.l _ (HSP.out.up (aA hbB hbd)) (Nat.le_trans HN.out y5)).mono ?_;rintro e wn ⟨v,rfl,ho,hbn⟩;obtain ⟨nA,nc,e7,hI,_⟩:=ho.ints (Nat.le_trans (Nat.le_of_eq HLN.out) (Nat.le_trans HN.out y5));rw [HLN.out] at e7 hI;subst e7)
   have hbn2:=aA hbd hbn;have HNI:=ħ hI;clear ho hI;refine hkq hK (hS _ hbn2) fun hHeld=>?_;clear hK K;refine ry 4 fun K hK=>?_;go_simp;(go_at_call 59;refine (zK Pi D nA SP.n nc a.l true _ (HPi.out.up hbn2) HS.out HZ.out HNI.out (Nat.le_trans HN.out y5) (Nat.le_trans HNR.out y5)).mono ?_;rintro e wa ⟨he,hba0⟩;obtain ⟨P8,he,hO8⟩:=(if_pos rfl:(if true=true then _ else _)=_)▸he;simp only [aF.val,jF] at he;subst he)
   have hba:=aA hbn2 hba0;refine hkq hK (hS _ hba) fun hHeld=>?_;clear hK K;refine tk 5 190 ?_;refine tk 6 196 ?_;refine tk 7 197 ?_;refine ry 8 fun K hK=>?_;have HXa:=ħ (HGx.out.up hba);have hR:=HXa.out;have qf:=hR.frozen;have ql:=hR.lt;have h9:=hR.box;obtain ⟨q0,q1,q2,q3,q4,q5,q6,q7,q8⟩:=bx9 h9;clear h9 hR;go_simp;clear qf ql q0 q1 q2 q3 q4 q5 q6 q7 q8;refine hkq hK (nW (inW D a.l) P8 (hSr _ (hS _ hba))) fun hHeld=>?_;clear hK K;refine tk 9 12 ?_;refine wz ?_;go_upto_region 53 with fail
   rename_i K9 hK9;have hsx:=nW (inW D a.l) P8 (gF HXa.out rfl);have hO8w:=(hO8.mono (Nat.le_trans (Nat.le_refl _) hbn2.size)).tk (nW (inW D a.l) P8 (aC.sets9 HXa.out)) aU;have htk:aC 27 Yc (kW wa gx (inW D a.l) P8):=(aC.of_below hba).trans (nW (inW D a.l) P8 (aC.sets9 HXa.out));have hblk:∀g t cs,Blk Yc g t cs→g≠gx→Blk (kW wa gx (inW D a.l) P8) g t cs:=fun g t cs h hne=>nW (inW D a.l) P8 ((h.up hba).sets9 hne);have hbWw:=nW (inW D a.l) P8 (bU (g:=gx) (aA hbB hba) y2);have hBW:Yc.heap.size≤(kW wa gx (inW D a.l) P8:World).heap.size:=by have h2:=hba.size;simp [World.setCell];exact h2
   refine nm (kW wa gx (inW D a.l) P8:World) fun W hW=>?_;rw [←hW] at hsx hO8w htk hblk hbWw hBW ⊢;clear hW;have l1:=HG1.out.lt;have l3:=HG3.out.lt;have ls:=HGs.out.lt;have hli:=HGi.out.lt;have hwB:=hbB.size;have hR8:=hO8w.work HBG.out
   exact dX w W Yc.heap.size w.heap.size (w.heap.size+1+1) gi gs gx P Pi P5 P8 D (inW D a.l) 0 y56 none none 0 0 0 0 hK9 hbWw hwB hBW y2 l3 y2 y2 y2
    (fun Y' hY'=>⟨H.out.up (hbWw.trans (hY'.mono hwB)),(HGO.out.tk (cI htk hY') aU).work HS.out,(hblk _ _ _ HG1.out y2).below hY' l1,(hblk _ _ _ HGi.out y2).below hY' hli,(hblk _ _ _ HG3.out y2).below hY' l3⟩)
    (fun Y' hY'=>⟨(HO5.out.tk (cI htk (hY'.mono hBW)) aU).work HBG.out,(hblk _ _ _ HGs.out y2).up hY'⟩) (fun _ Y' hY'=>(hblk _ _ _ HGs.out y2).below hY' ls)
    (fun _ Y' hY' Z hZ hz=>((HO5.out.tk (cI htk hY') aU).tk hZ aU).work HBG.out)
    hsx hO8w HBG.out y54 y43 y42 (by have e1:=hR8.re.1;rw [←e1];exact HRL.out) HSM.out.2.2.2.1 HSM.out.2.2.2.2
    (fun Y' hY'=>bO none 0 0 none 0 0 [] Y' (eJ.nil _) (eJ.nil _)) (fun Y' hY' hk=>(cG Y').mono fun e w' h=>⟨h.1,h.2.mono (Nat.le_trans hBW hY'.size)⟩)
end Go.Proofs.YtgfakefcmbpboaaGreat
