/- Part 32 of what WorkerExact leans on. No conditions. -/
import Derived.Test.YtgfakefcmbpboaaGreatV21
namespace Go.Proofs.YtgfakefcmbpboaaGreat
set_option linter.all false
set_option maxRecDepth 100000
set_option maxHeartbeats 64000000
open _root_.Go.Proofs.Tryz Go.RowKit
open Tok
def stF (re acc:List Int) (d:Int):List Int:=if fX d=true∧cQ re d=false∧cQ acc d=false then acc ++ [d] else acc
def fsF (re l:List Int):List Int:=l.foldl (stF re) []
theorem CP {B g:Nat} {a b c d:World} {o:Obj} {t:TypeId} {cs:List Value} (h:Blk a g t cs) (hg:g<B) (h5:Below a a b) (h6:Below b b c) (h7:Below B (c.alloc o) d):Blk d g t cs:=(((h.up h5).up h6).up (aB (Below.refl _ _))).below h7 hg
theorem AN (re l:List Int) {k:Nat} (hk:k<l.length):fsF re (l.take (k+1))=stF re (fsF re (l.take k)) (nth l k):=by
 unfold fsF;rw [jB l k hk,List.foldl_append];rfl
theorem IR (re acc:List Int) (d:Int):(stF re acc d).length≤acc.length+1:=by
 unfold stF;split<;>simp
theorem Aq (re l:List Int):∀k,k≤l.length→(fsF re (l.take k)).length≤k
 | 0,_=>by simp [fsF]
 | k+1,h=>by
  rw [AN re l y2];have h1:=IR re (fsF re (l.take k)) (nth l k);have h2:=Aq re l k y2;omega
def inW (D:aD) (l:List Int):aD:={D with re:=fsF D.re l ++ D.re}
theorem Fu (P:aF) (D:aD) (A:Option Addr) (n c:Nat) (l:List Int) (w:World) (h:bG w P D) (hl:aL w A n l) (hn:n≤1000000) (hr:D.re.length≤1000000) :
 Calls prog 104 #[P.val D,.slice A n c] w fun e w'=>∃s:SlP,e=.returned (aF.val ⟨P.op,P.wa,P.he,s⟩ (inW D l))∧aE w' w.heap.size s.v (fsF D.re l ++ D.re)∧Below w w w':=by
 have H:=ħ h;have HL:=ħ hl;have HLN:Hid (l.length=n):=ħ hl.1;have HRE:Hid (aL w P.re.A P.re.n D.re):=ħ h.re;have hrn:P.re.n≤1000000:=by have e:=h.re.1;show P.re.n≤_;have e2:D.re.length=P.re.n:=e;omega
 clear h hl hr;show Calls prog 104 #[.agg (cW D P),.slice A n c] w _;go_enter func104,ntmps104
 go_wp2_with fail
 have hX1:Blk ((w.alloc (.cells (cW D P) 27)).alloc (.cells cZ 27)) w.heap.size 27 (cW D P):=(Blk.new w 27 (cW D P)).up y1
 have hX3:Blk ((w.alloc (.cells (cW D P) 27)).alloc (.cells cZ 27)) (w.heap.size+1) 27 cZ:=by
  have:=Blk.new (w.alloc (.cells (cW D P) 27)) 27 cZ;simpa using this
 have hbX:Below w w ((w.alloc (.cells (cW D P) 27)).alloc (.cells cZ 27)):=y0;generalize ((w.alloc (.cells (cW D P) 27)).alloc (.cells cZ 27))=X at *;have HX1:=ħ hX1;have HX3:=ħ hX3;clear hX1 hX3
 go_loopw [5,10] (fun v ix wr=>∃k:Nat,k≤n∧ix=.int .i64 k∧Hid (aE wr (w.heap.size+2) v (fsF D.re (l.take k)))∧Hid (Blk wr w.heap.size 27 (cW D P))∧Hid (Blk wr (w.heap.size+1) 27 cZ)∧Below w w wr) (fun _ ix _=>n-(intOf ix).toNat)
 case atStart=>exact ⟨0,Nat.zero_le _,rfl,ħ (aE.nil _ _),HX1,HX3,hbX⟩
 case round=>
  clear HX1 HX3 hbX X;obtain ⟨k,hk,rfl,HF,HB,HZ,hbw⟩:=hrel
  (obtain ⟨wk,hwk⟩:∃x,x=wr:=⟨_,rfl⟩);subst hwk
  have hfl:=Aq D.re l k (by rw [HLN.out];exact hk);refine mn (fsF D.re (l.take k)) fun acc hacc=>?_;rw [hacc] at HF hfl;obtain ⟨fA,fc,e,hI,hfB⟩:=HF.out.ints y2;subst e;refine mn acc.length fun fn hfn=>?_;rw [hfn] at HF hI hfl ⊢;have HFI:=ħ hI;have HFN:=ħ hfn;have HAC:=ħ hacc;have lb:=HZ.out.lt;clear hI hfn hfB hacc;obtain ⟨a_0,a_1,a_2,a_3,a_4,a_5,a_6,a_7,a_8⟩:=bx9 HB.out.box;by_cases hlt:k<n
  · obtain ⟨b,off,rfl,hb,hc⟩:=(HL.out.up hbw).2.2 y2;have hck:=hc k hlt;refine mn (nth l k) fun d hd=>?_;rw [hd] at hck;have HST:Hid (fsF D.re (l.take (k+1))=stF D.re acc d):=ħ (by rw [AN _ _ (by rw [HLN.out];exact hlt),HAC.out,hd]);refine mn (fX d) fun y1 h1=>?_;refine mn (cQ D.re d) fun y2 h2=>?_;refine mn (cQ acc d) fun y3 h3=>?_;have H1:=ħ h1;have H2:=ħ h2;have H3:=ħ h3;clear hc hd h1 h2 h3;have hlk:(k:Int)<(n:Int):=by omega
    cases y1
    · have hs:fsF D.re (l.take (k+1))=acc:=by rw [HST.out];unfold stF;rw [if_neg (by rw [H1.out];simp)]
      have HS:=ħ hs;clear hs;go_wp2_with (go_at_call 110;refine (bR d _ _ H1.out).mono ?_;rintro e w' ⟨rfl,rfl⟩)
      go_roundw
      case rel=>exact ⟨k+1,by omega,by go_num,by (rw [HS.out];exact HF),HB,HZ,hbw⟩
      case measure=>(simp [intOf]<;>omega)
    · cases y2
      · cases y3
        · have hs:fsF D.re (l.take (k+1))=acc ++ [d]:=by rw [HST.out];unfold stF;rw [if_pos ⟨H1.out,H2.out,H3.out⟩]
          have HS:=ħ hs;clear hs
          go_wp2_with (first
           | (go_at_call 110;refine (bR d _ _ H1.out).mono ?_;rintro e w' ⟨rfl,rfl⟩)
           | (go_at_call 132;first|((with_reducible refine (cD P.re.A P.re.n P.re.c D.re d _ _ (HRE.out.up hbw) H2.out).mono ?_);rintro e w5 ⟨rfl,hb5⟩)|((with_reducible refine (cD fA fn fc acc d _ _ (HFI.out.up hb5) H3.out).mono ?_);rintro e w6 ⟨rfl,hb6⟩))
           | (at_builtin;refine fJ rfl (.tmp 29) (.tmp 31) rfl (w.heap.size+2) (.slice fA fn fc) acc rfl (((HF.out.up hb5).up hb6).alloc _) _ d rfl (eH _ _ _) (by rw [HFN.out];omega) (fE (by have:=hb5.size;have:=hb6.size;omega)) ?_;intro v1 w7 hown7 hg7 hbel7 hat7))
          (refine rnd ?_;exact ⟨k+1,by omega,by go_num,by (rw [HS.out];exact ħ hown7),ħ (CP HB.out y2 hb5 hb6 hbel7),ħ (CP HZ.out y2 hb5 hb6 hbel7),(aA (aA (aA hbw hb5) hb6) (aB (Below.refl _ _))).trans (hbel7.mono y2)⟩)
        · have hs:fsF D.re (l.take (k+1))=acc:=by rw [HST.out];unfold stF;rw [if_neg (by rw [H3.out];simp)]
          have HS:=ħ hs;clear hs
          go_wp2_with (first
           | (go_at_call 110;refine (bR d _ _ H1.out).mono ?_;rintro e w' ⟨rfl,rfl⟩)
           | (go_at_call 132;first|((with_reducible refine (cD P.re.A P.re.n P.re.c D.re d _ _ (HRE.out.up hbw) H2.out).mono ?_);rintro e w5 ⟨rfl,hb5⟩)|((with_reducible refine (cD fA fn fc acc d _ _ (HFI.out.up hb5) H3.out).mono ?_);rintro e w6 ⟨rfl,hb6⟩)))
          (refine rnd ?_;exact ⟨k+1,by omega,by go_num,by (rw [HS.out];exact ħ ((HF.out.up hb5).up hb6)),ħ ((HB.out.up hb5).up hb6),ħ ((HZ.out.up hb5).up hb6),aA (aA hbw hb5) hb6⟩)
      · have hs:fsF D.re (l.take (k+1))=acc:=by rw [HST.out];unfold stF;rw [if_neg (by rw [H2.out];simp)]
        have HS:=ħ hs;clear hs
        go_wp2_with (first
         | (go_at_call 110;refine (bR d _ _ H1.out).mono ?_;rintro e w' ⟨rfl,rfl⟩)
         | (go_at_call 132;first|((with_reducible refine (cD P.re.A P.re.n P.re.c D.re d _ _ (HRE.out.up hbw) H2.out).mono ?_);rintro e w5 ⟨rfl,hb5⟩)|((with_reducible refine (cD fA fn fc acc d _ _ (HFI.out.up hb5) H3.out).mono ?_);rintro e w6 ⟨rfl,hb6⟩)))
        (refine rnd ?_;exact ⟨k+1,by omega,by go_num,by (rw [HS.out];exact ħ (HF.out.up hb5)),ħ (HB.out.up hb5),ħ (HZ.out.up hb5),aA hbw hb5⟩)
  · obtain rfl:k=n:=by omega
    have hd1:decide ((k:Int)<(k:Int))=false:=by simp
    have hE:acc=fsF D.re l:=by rw [←HAC.out,← HLN.out,List.take_length]
    have HE:=ħ hE;have lw:=HB.out.lt;have fw:=HB.out.frozen;have fz:=HZ.out.frozen;have hs2:w.heap.size+2≤wk.heap.size:=by omega
    have hsz:=hbw.size;clear hE;go_wp2_with (at_builtin;refine uX rfl (.tmp 34) (.tmp 36) rfl rfl (w.heap.size+2) (.slice fA fn fc) acc rfl HF.out P.re.A P.re.n P.re.c D.re rfl (HRE.out.up hbw) (by rw [HFN.out];omega) hs2 ?_;intro v1 w7 hown7 hg7 hbel7 hat7;obtain ⟨sA,sc,e7,hI7,_⟩:=hown7.ints (by have e8:=HFN.out;have e9:D.re.length=P.re.n:=HRE.out.1;simp;omega);have HO7:=ħ hown7;have hB7:=HB.out.below hbel7 y2;have hZ7:=HZ.out.below hbel7 y2;have l7:=hB7.lt;have l8:=hZ7.lt;have f7:=hB7.frozen;have f8:=hZ7.frozen;clear a_0 a_1 a_2 a_3 a_4 a_5 a_6 a_7 a_8 hown7 hg7 hat7 hI7;obtain ⟨b_0,b_1,b_2,b_3,b_4,b_5,b_6,b_7,b_8⟩:=bx9 hB7.box;obtain ⟨z_0,z_1,z_2,z_3,z_4,z_5,z_6,z_7,z_8⟩:=bx9 hZ7.box;clear hB7 hZ7;(obtain ⟨sn,hsn⟩:∃x,(acc ++ D.re).length=x:=⟨_,rfl⟩);rw [hsn] at e7;subst e7;clear hsn)
    have hbe:Below w w w7:=hbw.trans (hbel7.mono y2);have HBE:=ħ hbe;clear hbel7 hbw hbe lb lw fw fz;go_wp2_with fail
    exact bodyPost_ret (v:=.agg #[D.id,D.nodes,D.next,P.op,D.age,D.clock,P.wa,P.he,.slice sA sn sc]) (by simp [results,results104,go_sem, *]) rfl ⟨⟨sA,sn,sc⟩,rfl,by (rw [←HE.out];exact ((((((((((HO7.out.set (p:=⟨w,8,none⟩) (by show w.heap.size<_;omega) (.slice sA sn sc)).set (p:=⟨w.heap.size+1,0,none⟩) y37 (.int .i64 D.id)).set (p:=⟨w.heap.size+1,1,none⟩) y37 (.int .i64 D.nodes)).set (p:=⟨w.heap.size+1,2,none⟩) y37 (.int .i64 D.next)).set (p:=⟨w.heap.size+1,3,none⟩) y37 (.slice P.op.A P.op.n P.op.c)).set (p:=⟨w.heap.size+1,4,none⟩) y37 (.int .i64 D.age)).set (p:=⟨w.heap.size+1,5,none⟩) y37 (.int .i64 D.clock)).set (p:=⟨w.heap.size+1,6,none⟩) y37 (.slice P.wa.A P.wa.n P.wa.c)).set (p:=⟨w.heap.size+1,7,none⟩) y37 (.slice P.he.A P.he.n P.he.c)).set (p:=⟨w.heap.size+1,8,none⟩) y37 (.slice sA sn sc)).mono y2),y14⟩
theorem zK (P:aF) (D:aD) (A:Option Addr) (n c:Nat) (l:List Int) (z:Bool) (w:World) (h:bG w P D) (hs:dY D) (hz:dZ D=z) (hl:aL w A n l) (hn:n≤1000000) (hr:D.re.length≤1000000) :
 Calls prog 59 #[P.val D,.slice A n c] w fun e w'=>(if z=true then ∃P',e=.returned (.tuple #[aF.val P' (inW D l),z0])∧aX w' w.heap.size P' (inW D l) else e=.returned (.tuple #[jF,.int .i64 1]))∧Below w w w':=by
 have H:=ħ h;have HS:=ħ hs;have HZ:=ħ hz;have HL:=ħ hl;have HR:=ħ hr;clear h hs hz hl hr;show Calls prog 59 #[.agg (cW D P),.slice A n c] w _;go_enter func59,ntmps59
 go_wp2_with fail
 have hX1:Blk ((w.alloc (.cells (cW D P) 27)).alloc (.cells cZ 27)) w.heap.size 27 (cW D P):=(Blk.new w 27 (cW D P)).up (aJ)
 have hX3:Blk ((w.alloc (.cells (cW D P) 27)).alloc (.cells cZ 27)) (w.heap.size+1) 27 cZ:=by
  have:=Blk.new (w.alloc (.cells (cW D P) 27)) 27 cZ;simpa using this
 have hbX:Below w w ((w.alloc (.cells (cW D P) 27)).alloc (.cells cZ 27)):=aJ;generalize ((w.alloc (.cells (cW D P) 27)).alloc (.cells cZ 27))=X at *;have HX1:=ħ hX1;have HX3:=ħ hX3;clear hX1 hX3;refine (dK P D z _ (H.out.up hbX) HZ.out).mono ?_;rintro e w1 ⟨rfl,hb1⟩;have hY1:=HX1.out.up hb1;have hY3:=HX3.out.up hb1;have hbY:=aA hbX hb1;have l1:=hY1.lt;have l3:=hY3.lt;have f3:=hY3.frozen;obtain ⟨a_0,a_1,a_2,a_3,a_4,a_5,a_6,a_7,a_8⟩:=bx9 hY1.box;obtain ⟨c_0,c_1,c_2,c_3,c_4,c_5,c_6,c_7,c_8⟩:=bx9 hY3.box;have HY3:=ħ hY3;clear hY1 hY3 HX1 HX3 hb1 hbX;cases z
 · go_wp2_with fail
   exact bodyPost_ret (v:=.tuple #[.agg cZ,.int .i64 1]) (by simp [results,results59,go_sem, *]) rfl ⟨rfl,aI⟩
 · clear c_0 c_1 c_2 c_3 c_4 c_5 c_6 c_7 c_8;go_wp2_with fail
   refine (gU P D _ (H.out.up hbY) HS.out).mono ?_;rintro e w3 ⟨⟨⟨oA2,on2,oc2⟩,⟨tA2,tn2,tc2⟩,⟨eA2,en2,ec2⟩,⟨rA2,rn2,rc2⟩⟩,he3,hO3,_,hb3⟩;simp only [aF.val] at he3;subst he3;have HO3:=ħ (hO3.mono (B':=w.heap.size+2) y2);have HV3:=ħ (HY3.out.up hb3);have hbV:=aA hbY hb3;have HBV:=ħ hbV;clear hO3 HY3 a_0 a_1 a_2 a_3 a_4 a_5 a_6 a_7 a_8 l1 l3 f3;go_wp2_with (go_at_call 104;refine (Fu ⟨⟨oA2,on2,oc2⟩,⟨tA2,tn2,tc2⟩,⟨eA2,en2,ec2⟩,⟨rA2,rn2,rc2⟩⟩ D A n c l _ (HO3.out.work HS.out) (HL.out.up hbV) hn HR.out).mono ?_;rintro e w4 ⟨⟨sA,sn,sc⟩,he4,hoI,hb4⟩;simp only [aF.val,inW] at he4;subst he4;have hU3:=HV3.out.up hb4;have l4:=hU3.lt;have f4:=hU3.frozen;obtain ⟨c_0,c_1,c_2,c_3,c_4,c_5,c_6,c_7,c_8⟩:=bx9 hU3.box;have HU3:=ħ hU3;have HOI:=ħ hoI;clear hU3 hoI)
   have hsv:=HBV.out.size;have lv:=HV3.out.lt;have hW4:aX w4 (w.heap.size+2) ⟨⟨oA2,on2,oc2⟩,⟨tA2,tn2,tc2⟩,⟨eA2,en2,ec2⟩,⟨sA,sn,sc⟩⟩ (inW D l):=⟨HO3.out.op.up hb4,HO3.out.wa.up hb4,HO3.out.he.up hb4,HOI.out.mono y2⟩;have hW9:=(hW4.low9 (g:=w.heap.size+1) y2 (.int .i64 D.id) (.int .i64 D.nodes) (.int .i64 D.next) (.slice oA2 on2 oc2) (.int .i64 D.age) (.int .i64 D.clock) (.slice tA2 tn2 tc2) (.slice eA2 en2 ec2) (.slice sA sn sc)).mono (B':=w.heap.size) y2;have HW9:=ħ hW9;clear hW4 hW9;go_wp2_with fail
   exact bodyPost_ret (v:=.tuple #[.agg (cV D oA2 on2 oc2 tA2 tn2 tc2 eA2 en2 ec2 sA sn sc),z0]) (by simp [results,results59,go_sem, *]) rfl ⟨⟨⟨⟨oA2,on2,oc2⟩,⟨tA2,tn2,tc2⟩,⟨eA2,en2,ec2⟩,⟨sA,sn,sc⟩⟩,rfl,HW9.out⟩,aI⟩
end Go.Proofs.YtgfakefcmbpboaaGreat
