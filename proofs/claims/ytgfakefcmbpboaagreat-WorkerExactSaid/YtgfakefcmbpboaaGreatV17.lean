/- Part 17 of what WorkerExact leans on. No conditions. -/
import Derived.Test.YtgfakefcmbpboaaGreatV16
namespace Go.Proofs.YtgfakefcmbpboaaGreat
set_option linter.all false
set_option maxRecDepth 100000
set_option maxHeartbeats 64000000
open _root_.Go.Proofs.Tryz Go.RowKit
open Tok
theorem qA {w:World} {B k n:Nat} {t:TypeId} {A:Option Addr} {c:Nat} {xs:List Value} (h:w.ownsRow B t k (.slice A n c) n xs) (hn:0<n):∃g,A=some ⟨g,0,none⟩∧B≤g∧g<w.heap.size:=by
 rcases eD h with ⟨_,h0⟩|⟨g,c',e,hg,_⟩
 · omega
 · injection e with e1 e2 e3;subst e1;exact ⟨g,rfl,hg,(bV h g rfl).2⟩
theorem FG {w:World} {g o:Nat} {x:Value}:w.grownBy (w.setCell ⟨g,o,none⟩ x) (some g):=
 ⟨rfl,rfl,rfl,by simp,fun k hk hne=>Below.heap_setCell _ _ _ _ (by show k≠g;intro e;exact hne (by rw [e]))⟩
theorem gT {w:World} {B B' k k' n n' g o:Nat} {t t':TypeId} {u v x:Value} {xs ys:List Value} (h:w.ownsRow B t k u n xs) (hv:w.ownsRow B' t' k' v n' ys) (hne:t≠t') (hg:v.ownBlock=some g):(w.setCell ⟨g,o,none⟩ x).ownsRow B t k u n xs:=
 bT h hv hne (by rw [hg];exact FG)
theorem bL.setW {w:World} {B B' n' g o:Nat} {u v x:Value} {l:List bI} {ys:List Value} (h:bL w B u l) (hv:w.ownsRow B' 56 2 v n' ys) (hg:v.ownBlock=some g):bL (w.setCell ⟨g,o,none⟩ x) B u l:=by
 obtain ⟨ps,h1,h2,h3⟩:=h;exact ⟨ps,gT h1 hv y5 hg,h2,fun j hj=>gT (h3 j hj) hv y5 hg⟩
theorem vC {α β:Type} [Inhabited α] [Inhabited β] (T:rQ α β) {l:List α} {ps:List β} {i r:Nat} {u:Value} {p:β} (h:ps.length=l.length) (hi:i<l.length) (hr:r<T.k) (he:T.enc (l.getD i default) p=(T.enc (l.getD i default) (ps.getD i default)).set r u):(aO T l ps).set (i*T.k+r) u=aO T l (ps.set i p):=by
 have hl:=gP T h;have hl2:=gP T (l:=l) (ps:=ps.set i p) (by simp [h]);apply List.ext_getElem?;intro q;have hk:=T.k0;by_cases hq:q<l.length*T.k
 · have hqd:q / T.k<l.length:=Nat.div_lt_of_lt_mul (by rw [Nat.mul_comm];exact hq);have hqr:q % T.k<T.k:=Nat.mod_lt _ hk;have hqq:q=(q / T.k)*T.k+q % T.k:=by have:=Nat.div_add_mod q T.k;rw [Nat.mul_comm] at this;omega
   have e2:=cO T (l:=l) (ps:=ps.set i p) (by simp [h]) hqd hqr;have e1:=cO T h hqd hqr;rw [←hqq] at e1 e2;rw [e2];by_cases hi2:q / T.k=i
   · have hg:(ps.set i p).getD (q / T.k) default=p:=by simp [hi2,show i<ps.length by omega]
     rw [hg,hi2,he];by_cases hr2:q % T.k=r
     · have:i*T.k+r=q:=by rw [←hi2,← hr2];exact hqq.symm
       rw [this,List.getElem?_set,if_pos rfl,if_pos y2,hr2,List.getElem?_set,if_pos rfl,if_pos (by rw [T.len];exact hr)]
     · have hne:i*T.k+r≠q:=by intro e;apply hr2;rw [hqq,hi2] at e;omega
       rw [List.getElem?_set,if_neg hne,e1,hi2,List.getElem?_set,if_neg (fun e=>hr2 e.symm)]
   · have hg:(ps.set i p).getD (q / T.k) default=ps.getD (q / T.k) default:=by
      simp only [List.getD_eq_getElem?_getD];rw [List.getElem?_set,if_neg (fun e=>hi2 e.symm)]
     have hne:i*T.k+r≠q:=by
      intro e;apply hi2;rw [←e,Nat.add_comm,Nat.add_mul_div_right _ _ hk,Nat.div_eq_of_lt hr,Nat.zero_add]
     rw [hg,List.getElem?_set,if_neg hne,e1]
 · rw [List.getElem?_eq_none (by simp [hl];omega),List.getElem?_eq_none (by rw [hl2];omega)]
theorem gF {w:World} {g:Nat} {cs:List Value} {t:TypeId} (h:Blk w g t cs) (hl:cs.length=9) (a0 a1 a2 a3 a4 a5 a6 a7 a8:Value):Blk (kA w g a0 a1 a2 a3 a4 a5 a6 a7 a8) g t [a0,a1,a2,a3,a4,a5,a6,a7,a8]:=by
 obtain ⟨x0,x1,x2,x3,x4,x5,x6,x7,x8,rfl⟩:=I4 hl;exact ((((((((h.set_ 0 a0).set_ 1 a1).set_ 2 a2).set_ 3 a3).set_ 4 a4).set_ 5 a5).set_ 6 a6).set_ 7 a7).set_ 8 a8
theorem gU (P:aF) (D:aD) (w:World) (h:bG w P D) (hs:dY D) :
 Calls prog 89 #[P.val D] w fun e w'=>∃P',e=.returned (P'.val D)∧aX w' w.heap.size P' D∧(∃B2,w.heap.size≤B2∧(∀q,P'.op.v.ownBlock=some q→q<B2)∧bL w' B2 P'.he.v D.he)∧Below w w w':=by
 have HO:Hid (bZ w P.op.A P.op.n D.op):=ħ h.op;have HT:Hid (eC w P.wa.A P.wa.n D.wa):=ħ h.wa;have HE:Hid (dU w P.he.A P.he.n D.he):=ħ h.he;have HR:Hid (aL w P.re.A P.re.n D.re):=ħ h.re;have hon:P.op.n≤800000000:=by rw [←HO.out.1];exact hs.op
 have hrn:P.re.n≤800000000:=by rw [←HR.out.1];exact hs.re
 have htn:P.wa.n≤800000000:=by rw [←HT.out.1];exact hs.wa.1
 have HS:=ħ hs;clear h hs;show Calls prog 89 #[.agg (cW D P)] w _;go_enter func89,ntmps89
 go_upto_region 1 with fail
 go_cut [] from 4 to 16 (fun wx=>∃vo vr vh B2,Blk wx w.heap.size 27 [D.id,D.nodes,D.next,vo,D.age,D.clock,P.wa,vh,vr]∧Blk wx (w.heap.size+1) 27 cZ∧bD wx (w.heap.size+2) vo D.op∧aE wx (w.heap.size+2) vr D.re∧bL wx B2 vh D.he∧w.heap.size+2≤B2∧(∀q,vo.ownBlock=some q→q<B2)∧Below w w wx)
 case first=>
  have hX1:Blk ((w.alloc (.cells (cW D P) 27)).alloc (.cells cZ 27)) w.heap.size 27 (cW D P):=(Blk.new w 27 (cW D P)).up (aJ)
  have hX2:Blk ((w.alloc (.cells (cW D P) 27)).alloc (.cells cZ 27)) (w.heap.size+1) 27 cZ:=by
   have:=Blk.new (w.alloc (.cells (cW D P) 27)) 27 cZ;simpa using this
  have hbX:Below w w ((w.alloc (.cells (cW D P) 27)).alloc (.cells cZ 27)):=aJ;have hzX:((w.alloc (.cells (cW D P) 27)).alloc (.cells cZ 27)).heap.size=w.heap.size+2:=by simp
  generalize ((w.alloc (.cells (cW D P) 27)).alloc (.cells cZ 27))=X at *;obtain ⟨g_0,g_1,g_2,g_3,g_4,g_5,g_6,g_7,g_8⟩:=bx9 hX1.box;have hff:=hX1.frozen;have hl1:=hX1.lt;have HX1:=ħ hX1;have HX2:=ħ hX2;have hzX2:w.heap.size+2≤X.heap.size:=by omega
  clear hX1 hX2 hzX
  go_region_with (first
   | (go_at_call 113;refine (fL P.op.A P.op.n P.op.c D.op _ (HO.out.up (aJ)) y2).mono ?_;rintro e wo ⟨vo,rfl,ho1,hbO⟩;obtain ⟨Ao,co,rfl,_⟩:=ho1.txs y91;have hzO:=hbO.size;(try simp at hzO);have hcO:=fun o=>(aK hbO).1 w.heap.size o y4;have hfO:=fun o=>(aK hbO).2 w.heap.size o y4;rw [HO.out.1] at ho1 ⊢;have HO1:=ħ ho1;clear ho1)
   | (go_at_call 125;refine (jT P.re.A P.re.n P.re.c D.re _ (HR.out.up (aJ)) y2).mono ?_;rintro e wi ⟨vr,rfl,hr1,hbI⟩;obtain ⟨Ar,cr,rfl,_⟩:=hr1.ints y90;have hzI:=hbI.size;(try simp at hzI);have hcI:=fun o=>(aK hbI).1 w.heap.size o y4;have hfI:=fun o=>(aK hbI).2 w.heap.size o y4;rw [HR.out.1] at hr1 ⊢;have HR1:=ħ hr1;clear hr1)
   | (go_at_call 126;refine (Bt P.he.A P.he.n P.he.c D.he _ (HE.out.up (aJ)) HS.out.he).mono ?_;rintro e wh ⟨vh,rfl,hh1,hbH⟩;obtain ⟨Ah,ch,rfl,_⟩:=hh1.helds HS.out.he;have hzH:=hbH.size;(try simp at hzH);have hcH:=fun o=>(aK hbH).1 w.heap.size o y4;have hfH:=fun o=>(aK hbH).2 w.heap.size o y4;rw [HE.out.1] at hh1 ⊢;have HH1:=ħ hh1;clear hh1))
  all_goals
   go_wp2_with fail
   go_meet
   have hb1:Below X X wh:=aJ;have k1:=((HX1.out.up hb1).set_ 3 (.slice Ao P.op.n co)).set_ 8 (.slice Ar P.re.n cr) |>.set_ 7 (.slice Ah P.he.n ch);have k2:=(((HX2.out.up hb1).far (p:=⟨w,3,none⟩) y17 (.slice Ao P.op.n co)).far (p:=⟨w,8,none⟩) y17 (.slice Ar P.re.n cr)).far (p:=⟨w,7,none⟩) y17 (.slice Ah P.he.n ch);have q1:bD wh (w.heap.size+2) (.slice Ao P.op.n co) D.op:=(((HO1.out.mono (B':=w.heap.size+2) y26).up hbI).up hbH);have q2:aE wh (w.heap.size+2) (.slice Ar P.re.n cr) D.re:=((HR1.out.mono (B':=w.heap.size+2) y26).up hbH);have hB2:∃B2,bL wh B2 (.slice Ah P.he.n ch) D.he∧wi.heap.size≤B2:=⟨_,HH1.out,by simp⟩;obtain ⟨B2,q3,hB2⟩:=hB2;have hB3:w.heap.size+2≤B2:=by first|omega|(have:=hbI.size;have:=hbO.size;simp at *;omega)
   have hB4:∀q,(Value.slice Ao P.op.n co).ownBlock=some q→q<B2:=fun q hq=>by have h1:=(bV HO1.out q hq).2;have h2:=hbI.size;(try simp at h2);omega
   exact ⟨_,_,_,B2,k1,k2,((q1.set3 y2 _).set3 y2 _).set3 y2 _,((q2.low y2 _).low y2 _).low y2 _,((q3.low y2).low y2).low y2,hB3,hB4,aI⟩
 case rest=>
 obtain ⟨vo,vr,vh,B2,hx1,hx2,hqo,hqr,hqh,hB2,hB4,hb⟩:=hcut;obtain ⟨Ao,co,rfl,_⟩:=hqo.txs y91;obtain ⟨Ar,cr,rfl,_⟩:=hqr.ints y90;obtain ⟨Ah,ch,rfl,_⟩:=hqh.helds HS.out.he;rw [HO.out.1] at hqo hx1 hB4;rw [HR.out.1] at hqr hx1;rw [HE.out.1] at hqh hx1;obtain ⟨qs,hqs1,hqs2,hqs3⟩:=HT.out.rows
 have hone:∀p∈qs,p.oneCell'=true:=fun p hp=>by
  obtain ⟨j,hj,rfl⟩:=List.getElem_of_mem hp;obtain ⟨B,m,c,e,_⟩:=hqs3 j (by rw [←HT.out.1,← hqs1];exact hj);rw [show qs[j]=qs.getD j default by simp [hj],e];rfl
 have HQ1:=ħ hqs1;have HQ2:=ħ hqs2;have HQ3:=ħ hqs3;have HONE:=ħ hone;refine nm wc fun u hu=>?_;subst hu;have HX1:=ħ hx1;have HX2:=ħ hx2;have HQO:=ħ hqo;have HQR:=ħ hqr;have HQH:=ħ hqh;have HB4:=ħ hB4;have hg1:=hx1.lt;have hf1:=hx1.frozen;have hg2:=hx2.lt;obtain ⟨g_0,g_1,g_2,g_3,g_4,g_5,g_6,g_7,g_8⟩:=bx9 hx1.box;clear hqs1 hqs2 hqs3 hone hx1 hx2 hqo hqr hqh hB4;go_wp2_with fail
 refine (dM P.wa.A P.wa.n P.wa.c (aO aN D.wa qs) _ (HQ2.out.up hb) (CV HONE.out) y2).mono ?_;rintro e u1 ⟨v1,rfl,hrow,hb1⟩;obtain ⟨A1,c1,rfl,_⟩:=dC hrow y2;have hX1:=HX1.out.up hb1;have hX2:=HX2.out.up hb1;have hzu:w.heap.size+2≤u.heap.size:=by omega
 have hfX1:=hX1.frozen;have hlX1:=hX1.lt;have HROW:Hid ((u1.setCell ⟨w,6,none⟩ (.slice A1 P.wa.n c1)).ownsRow (w.heap.size+2) 56 2 (.slice A1 P.wa.n c1) P.wa.n (aO aN D.wa qs)):=ħ (xK (aZ hrow hzu) y2 _);have HY1:=ħ (hX1.set_ 6 (.slice A1 P.wa.n c1));have HY2:=ħ (hX2.far (p:=⟨w,6,none⟩) y17 (.slice A1 P.wa.n c1));have HYO:=ħ ((HQO.out.up hb1).set3 (b:=w.heap.size) (o:=6) y2 (.slice A1 P.wa.n c1));have HYR:=ħ ((HQR.out.up hb1).low (b:=w.heap.size) (o:=6) y2 (.slice A1 P.wa.n c1));have HYH:=ħ ((HQH.out.up hb1).low (b:=w.heap.size) (o:=6) (u:=.slice A1 P.wa.n c1) y2);have hbY:Below w w (u1.setCell ⟨w,6,none⟩ (.slice A1 P.wa.n c1)):=aI;obtain ⟨k_0,k_1,k_2,k_3,k_4,k_5,k_6,k_7,k_8⟩:=bx9 hX1.box;clear g_0 g_1 g_2 g_3 g_4 g_5 g_6 g_7 g_8 hX1 hX2 hrow;go_wp2_with fail
 clear k_0 k_1 k_2 k_3 k_4 k_5 k_6 k_7 k_8
 go_loopw [23] (fun si wr=>∃(i:Nat) (ps:List Value),i≤P.wa.n∧si=.int .i64 i∧Hid (ps.length=D.wa.length)∧Hid (wr.ownsRow (w.heap.size+2) 56 2 (.slice A1 P.wa.n c1) P.wa.n (aO aN D.wa ps))∧Hid (∀j,j<i→aE wr (w.heap.size+2) (ps.getD j default) (D.wa.getD j default).ak)∧Hid (∀j,i≤j→j<P.wa.n→ps.getD j default=qs.getD j default)∧Hid (Blk wr w.heap.size 27 [D.id,D.nodes,D.next,.slice Ao P.op.n co,D.age,D.clock,.slice A1 P.wa.n c1,.slice Ah P.he.n ch,.slice Ar P.re.n cr])∧Hid (Blk wr (w.heap.size+1) 27 cZ)∧Hid (bD wr (w.heap.size+2) (.slice Ao P.op.n co) D.op)∧Hid (aE wr (w.heap.size+2) (.slice Ar P.re.n cr) D.re)∧Hid (bL wr B2 (.slice Ah P.he.n ch) D.he)∧Below w w wr) (fun si _=>P.wa.n-(intOf si).toNat)
 case atStart=>exact ⟨0,qs,Nat.zero_le _,rfl,HQ1,HROW,ħ (fun j hj=>absurd hj y2),ħ (fun j _ _=>rfl),HY1,HY2,HYO,HYR,HYH,hbY⟩
 case round=>
  clear HROW HY1 HY2 HYO HYR HYH hbY;obtain ⟨i,ps,hi,rfl,HPL,HROW,HIN,HEQ,HY1,HY2,HYO,HYR,HYH,hbw⟩:=hrel
  (obtain ⟨wk,hwk⟩:∃x,x=wr:=⟨_,rfl⟩);subst hwk
  have hlk:=HY1.out.lt;have hfk:=HY1.out.frozen;have hlk2:=HY2.out.lt;obtain ⟨k_0,k_1,k_2,k_3,k_4,k_5,k_6,k_7,k_8⟩:=bx9 HY1.out.box;by_cases hlt:i<P.wa.n
  · obtain ⟨g,eA1,hgB,hgl⟩:=qA HROW.out y2;subst eA1;obtain ⟨B,m,d,eq,hak⟩:=HQ3.out i hlt;have hpi:ps.getD i default=.slice B m d:=(HEQ.out i (Nat.le_refl _) hlt).trans eq;have hil:i<D.wa.length:=by rw [HT.out.1];exact hlt
    obtain ⟨gg,fg⟩:=lQ HROW.out;have cA:wk.cell? ⟨g,i*2+1,none⟩=some (.slice B m d):=gg _ _ (by rw [show i*2+1=i*aN.k+1 from rfl,cO aN HPL.out hil y97,hpi];rfl);have hm:m≤800000000:=by rw [←hak.1];exact HS.out.wa.2 _ (cB hil)
    have HAK:=ħ (hak.up hbw);have HPI:=ħ hpi;have hg1x:w.heap.size≠g:=by omega
    have HIL:=ħ hil;clear gg eq hak hpi hil;go_wp2_with fail
    go_region_with (go_at_call 125;refine (jT B m d (D.wa.getD i default).ak _ (HAK.out.up (aJ)) y2).mono ?_;rintro e wi ⟨vr,rfl,hr1,hbI⟩;obtain ⟨Ai,ci,rfl,_⟩:=hr1.ints (by rw [HAK.out.1];omega);have hzI:=hbI.size;(try simp at hzI);have hcI:=fun o=>(aK hbI).1 w.heap.size o y4;have hcG:=fun o=>(aK hbI).1 g o y4;have hfG:=fun o=>(aK hbI).2 g o y4;have hfI:=fun o=>(aK hbI).2 w.heap.size o y4;rw [HAK.out.1] at hr1 ⊢;have HR1:=ħ hr1;clear hr1)
    all_goals
     have hb2:Below wk wk wi:=aJ;have hrow2:=bS HROW.out hb2;have hob:(Value.slice (some ⟨g,0,none⟩) P.wa.n c1).ownBlock=some g:=rfl;have hset:=Ay (j:=i*2+1) (u:=.slice Ai m ci) hrow2 y2;rw [show (aO aN D.wa ps).set (i*2+1) (.slice Ai m ci)=aO aN D.wa (ps.set i (.slice Ai m ci)) from vC aN HPL.out HIL.out y97 rfl] at hset;have HSET:=ħ hset
     have HIN2:Hid (∀j,j<i+1→aE (wi.setCell ⟨g,i*2+1,none⟩ (.slice Ai m ci)) (w.heap.size+2) ((ps.set i (.slice Ai m ci)).getD j default) (D.wa.getD j default).ak):=ħ (fun j hj=>by
      rcases Nat.lt_or_ge j i with q|q
      · rw [show (ps.set i (.slice Ai m ci)).getD j default=ps.getD j default by simp only [List.getD_eq_getElem?_getD];rw [List.getElem?_set,if_neg y2]];exact gT ((HIN.out j q).up hb2) hrow2 y5 hob
      · obtain rfl:j=i:=by omega
        rw [show (ps.set j (.slice Ai m ci)).getD j default=.slice Ai m ci by simp [show j<ps.length by rw [HPL.out];exact HIL.out]];exact gT (HR1.out.mono y26) hrow2 y5 hob)
     have HEQ2:Hid (∀j,i+1≤j→j<P.wa.n→(ps.set i (.slice Ai m ci)).getD j default=qs.getD j default):=ħ (fun j h1 h2=>by
      rw [show (ps.set i (.slice Ai m ci)).getD j default=ps.getD j default by simp only [List.getD_eq_getElem?_getD];rw [List.getElem?_set,if_neg y2]];exact HEQ.out j y2 h2)
     have HPL2:Hid ((ps.set i (.slice Ai m ci)).length=D.wa.length):=ħ (by simp [HPL.out]);have HZ1:=ħ ((HY1.out.up hb2).far (p:=⟨g,i*2+1,none⟩) hg1x (.slice Ai m ci));have HZ2:=ħ ((HY2.out.up hb2).far (p:=⟨g,i*2+1,none⟩) (by show w.heap.size+1≠g;omega) (.slice Ai m ci));have HZO:Hid (bD (wi.setCell ⟨g,i*2+1,none⟩ (.slice Ai m ci)) (w.heap.size+2) (.slice Ao P.op.n co) D.op):=ħ (gT (HYO.out.up hb2) hrow2 y5 hob);have HZR:Hid (aE (wi.setCell ⟨g,i*2+1,none⟩ (.slice Ai m ci)) (w.heap.size+2) (.slice Ar P.re.n cr) D.re):=ħ (gT (HYR.out.up hb2) hrow2 y5 hob);have HZH:Hid (bL (wi.setCell ⟨g,i*2+1,none⟩ (.slice Ai m ci)) B2 (.slice Ah P.he.n ch) D.he):=ħ ((HYH.out.up hb2).setW hrow2 hob);have hbZ:Below w w (wi.setCell ⟨g,i*2+1,none⟩ (.slice Ai m ci)):=(aA hbw hb2).setCell (p:=⟨g,i*2+1,none⟩) (by show w.heap.size≤g;omega) _;clear hset hrow2 hob;go_wp2_with fail
     (refine rnd ?_;exact ⟨i+1,_,by omega,by go_num,HPL2,HSET,HIN2,HEQ2,HZ1,HZ2,HZO,HZR,HZH,hbZ⟩)
  · have hw:cR wk (w.heap.size+2) (.slice A1 P.wa.n c1) D.wa:=⟨ps,by
     have h1:=HROW.out;refine ⟨by rw [HT.out.1];exact h1,HPL.out,fun j hj=>HIN.out j (by rw [HT.out.1] at hj;omega)⟩⟩
    have hWO:aX wk (w.heap.size+2) ⟨⟨Ao,P.op.n,co⟩,⟨A1,P.wa.n,c1⟩,⟨Ah,P.he.n,ch⟩,⟨Ar,P.re.n,cr⟩⟩ D:=⟨HYO.out,hw,HYH.out.mono hB2,HYR.out⟩;have HWO:=ħ hWO;have hf2:=HY2.out.frozen;obtain ⟨z_0,z_1,z_2,z_3,z_4,z_5,z_6,z_7,z_8⟩:=bx9 HY2.out.box;have hR:=gF HY2.out rfl (.int .i64 D.id) (.int .i64 D.nodes) (.int .i64 D.next) (.slice Ao P.op.n co) (.int .i64 D.age) (.int .i64 D.clock) (.slice A1 P.wa.n c1) (.slice Ah P.he.n ch) (.slice Ar P.re.n cr);obtain ⟨r_0,r_1,r_2,r_3,r_4,r_5,r_6,r_7,r_8⟩:=bx9 hR.box;clear hw hWO hR;go_wp2_with fail
    exact bodyPost_ret (v:=.agg #[D.id,D.nodes,D.next,.slice Ao P.op.n co,D.age,D.clock,.slice A1 P.wa.n c1,.slice Ah P.he.n ch,.slice Ar P.re.n cr]) (by simp [results,results89,go_sem,r_0,r_1,r_2,r_3,r_4,r_5,r_6,r_7,r_8]) rfl ⟨⟨⟨Ao,P.op.n,co⟩,⟨A1,P.wa.n,c1⟩,⟨Ah,P.he.n,ch⟩,⟨Ar,P.re.n,cr⟩⟩,rfl,(by (refine aX.mono (B:=w.heap.size+2) ?_ y2);(repeat (first|(with_reducible exact HWO.out)|((with_reducible refine aX.low ?_ ?_);rotate_left;(omega))))),⟨B2,by omega,HB4.out,(by (show bL _ B2 (.slice Ah P.he.n ch) D.he);(repeat (first|(with_reducible exact HYH.out)|((with_reducible refine bL.low ?_ ?_);rotate_left;(omega)))))⟩,aI⟩
theorem yY {α β:Type} [Inhabited α] [Inhabited β] (T:rQ α β) {l l':List α} {ps:List β} (h:ps.length=l.length) (hl:l'.length=l.length) (he:∀j,j<l.length→T.enc (l'.getD j default) (ps.getD j default)=T.enc (l.getD j default) (ps.getD j default)):aO T l' ps=aO T l ps:=by
 unfold aO
 congr 1
 apply List.ext_getElem
 · simp [hl]
 · intro i h1 h2;rw [List.getElem_zipWith,List.getElem_zipWith];have hi:i<l.length:=by rw [List.length_zipWith] at h2;omega
   have e:=he i hi;simpa [List.getD_eq_getElem?_getD,hi,hl,h,List.getElem?_eq_getElem,show i<l'.length by omega,show i<ps.length by omega] using e
theorem FY {α:Type} {xs:List α} {j:Nat} {u:α} (h:xs[j]? =some u):xs.set j u=xs:=by
 obtain ⟨hj,e⟩:=List.getElem?_eq_some_iff.1 h;rw [←e,List.set_getElem_self]
theorem Fr {w:World} {B g c i:Nat} {ps:List Value} {l:List aV} {p:Value} {ak:List Int} (h:aP aN w B (.slice (some ⟨g,0,none⟩) l.length c) ps l) (hi:i<l.length) (hin:aE w B p ak) :
 aP aN ((w.setCell ⟨g,i*2,none⟩ (.int .i64 (wth l i).di)).setCell ⟨g,i*2+1,none⟩ p) B (.slice (some ⟨g,0,none⟩) l.length c) (ps.set i p) (l.set i ⟨(wth l i).di,ak⟩):=by
 obtain ⟨h1,h2,h3⟩:=h;have a1:=Ay (u:=.int .i64 (wth l i).di) h1 (j:=i*2) (by show i*2<l.length*2;omega)
 have e0:(aO aN l ps)[i*2]? =some (.int .i64 (wth l i).di):=by
  exact cO aN h2 (j:=i) (r:=0) hi y5
 rw [FY e0] at a1;have a2:=Ay (u:=p) a1 (j:=i*2+1) (by show i*2+1<l.length*2;omega);have e1:(aO aN l ps).set (i*2+1) p=aO aN l (ps.set i p):=vC aN h2 hi (r:=1) y5 rfl
 have e2:aO aN (l.set i ⟨(wth l i).di,ak⟩) (ps.set i p)=aO aN l (ps.set i p):=yY aN (by simp [h2]) y17 (fun j hj=>by
  by_cases hji:j=i
  · subst hji;have:(l.set j ⟨(wth l j).di,ak⟩).getD j default=⟨(wth l j).di,ak⟩:=by simp [hj]
    rw [this];rfl
  · have:(l.set i ⟨(wth l i).di,ak⟩).getD j default=l.getD j default:=by
     simp only [List.getD_eq_getElem?_getD];rw [List.getElem?_set,if_neg (fun e=>hji e.symm)]
    rw [this])
 refine ⟨by rw [e2,← e1,List.length_set];exact a2,by simp [h2],fun j hj=>?_⟩;rw [List.length_set] at hj;have far:∀{q:Value} {m:List Int},aE w B q m→aE ((w.setCell ⟨g,i*2,none⟩ (.int .i64 (wth l i).di)).setCell ⟨g,i*2+1,none⟩ p) B q m:=fun hq=>gT (gT hq h1 y5 rfl) a1 y5 rfl;by_cases hji:j=i
 · subst hji;have g1:(l.set j ⟨(wth l j).di,ak⟩).getD j default=⟨(wth l j).di,ak⟩:=by simp [hj]
   have g2:(ps.set j p).getD j default=p:=by simp [show j<ps.length by omega]
   rw [g1,g2];exact far hin
 · have g1:(l.set i ⟨(wth l i).di,ak⟩).getD j default=l.getD j default:=by
    simp only [List.getD_eq_getElem?_getD];rw [List.getElem?_set,if_neg (fun e=>hji e.symm)]
   have g2:(ps.set i p).getD j default=ps.getD j default:=by
    simp only [List.getD_eq_getElem?_getD];rw [List.getElem?_set,if_neg (fun e=>hji e.symm)]
   rw [g1,g2];exact far (h3 j hj)
theorem iN {l:List aV} {key:Int} {lo:Nat} (hlo:eK l key=lo) (h:eW l key=true):lo<l.length∧(wth l lo).di=key:=by
 subst hlo;exact bJ.1 h
theorem DB (gs:Nat) (c0 c1 c2 c3 c4 c5 c7 c8 c9:Value) (tA:Option Addr) (tn tc:Nat) (wa:List aV) (who d:Int) (w:World) (hg:Blk w gs 142 [c0,c1,c2,c3,c4,c5,.slice tA tn tc,c7,c8,c9]) (hW:eC w tA tn wa) (hP:gK wa) (hbig:nU wa) (hris:∀x∈wa,mH x.ak) (hak:∀x∈wa,x.ak.length≤1000000) (hn:eW wa d=false∨eW wa d=true∧cQ (wth wa (eK wa d)).ak who=true) :
 Calls prog 134 #[.pointer (some ⟨gs,0,none⟩),who,d] w fun e w'=>e=.returned (.tuple #[])∧Below w w w':=by
 refine mn (eK wa d) fun lo hlo=>?_;rw [hlo] at hn;have HW:=ħ hW;have HP:=ħ hP;have HLO:=ħ hlo;have HRS:=ħ hris;have HAK:=ħ hak;have htn:tn≤800000000:=by rw [←hW.1];exact hbig.1
 have hgl:=hg.lt;have g6:=hg.box.2 6 _ rfl;clear hg hW hP hlo hris hbig hak;rcases hn with hy|⟨hy,hm⟩
 · have HY:=ħ hy;clear hy;go_enter func134,ntmps134
   go_wp2_with (go_at_call 120;refine (nE tA tn tc wa d lo false _ HW.out HP.out y2 HLO.out HY.out).mono ?_;rintro e w1 ⟨rfl,hb1⟩)
   exact bodyPost_ret (v:=.tuple #[]) (by simp [results,results134,go_sem]) rfl ⟨rfl,hb1⟩
 · obtain ⟨hlt,_⟩:=iN HLO.out hy;have HY:=ħ hy;have HM:=ħ hm;have hltn:lo<tn:=by rw [←HW.out.1];exact hlt
   obtain ⟨b,off,e1,hb,hc⟩:=HW.out.2.2 y2;obtain ⟨nA,nn,nc,⟨f0,f1⟩,hNT⟩:=hc lo hltn;have HNT:=ħ hNT;have HF:=ħ (And.intro f0 f1);have hrs:=HRS.out _ (cB hlt);have HR:=ħ hrs;have hnn:nn≤1000000:=by rw [←hNT.1];exact HAK.out _ (cB hlt)
   subst e1;clear hy hm hc f0 f1 hNT hrs hlt;go_enter func134,ntmps134
   go_upto_region 2 with (go_at_call 120;refine (nE (some ⟨b,off,none⟩) tn tc wa d lo true _ HW.out HP.out y2 HLO.out HY.out).mono ?_;rintro e w1 ⟨rfl,hb1⟩)
   have q0:=(hb1.cell (p:=⟨b,off+lo*2,none⟩) hb).trans HF.out.1;have q1:=(hb1.cell (p:=⟨b,off+lo*2+1,none⟩) hb).trans HF.out.2;have g61:=(hb1.cell (p:=⟨gs,6,none⟩) hgl).trans g6;have hgl1:gs<w1.heap.size:=Nat.lt_of_lt_of_le hgl hb1.size;have hbl:b<w1.heap.size:=Nat.lt_of_lt_of_le hb hb1.size;clear g6 hgl;go_wp2_with (go_at_call 154;refine (lL nA nn nc (wth wa lo).ak who _ (HNT.out.up (aA hb1 y1)) HR.out y2).mono ?_;rintro e w2 ⟨k,rfl,-,-,-,hb2⟩;rw [HM.out])
   go_end0
   exact ⟨rfl,aA hb1 (aA y1 hb2)⟩
end Go.Proofs.YtgfakefcmbpboaaGreat
