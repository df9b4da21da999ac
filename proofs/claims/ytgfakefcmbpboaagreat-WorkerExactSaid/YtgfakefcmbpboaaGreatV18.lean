/- Part 18 of what WorkerExact leans on. No conditions. -/
import Derived.Test.YtgfakefcmbpboaaGreatV17
namespace Go.Proofs.YtgfakefcmbpboaaGreat
set_option linter.all false
set_option maxRecDepth 100000
set_option maxHeartbeats 64000000
open _root_.Go.Proofs.Tryz Go.RowKit
open Tok
def mL (D:aD) (d:Int) (b:bY):aD:={D with he:=bM D.he (bB D.he d) ⟨d,b⟩}
theorem yM (g B:Nat) (oA tA eA rA uA bA:Option Addr) (on oc tn tc en ec rn rc un uc bn bc:Nat) (D:aD) (d:Int) (b:bY) (w:World) (hg:Blk w g 142 (cU D oA on oc tA tn tc eA en ec rA rn rc uA un uc)) (hB:B≤w.heap.size) (hh:bL w B (.slice eA en ec) D.he) (hs:B9 D.he) (hP:dQ D.he) (hb:bZ w bA bn b.tx) (hbn:bn≤800000000) :
 Calls prog 119 #[.pointer (some ⟨g,0,none⟩),d,.agg #[b.au,b.n,.slice bA bn bc]] w fun e w'=>∃X A n c,e=.returned (.tuple #[])∧w'=X.setCell ⟨g,7,none⟩ (.slice A n c)∧Below w w X∧bL X B (.slice A n c) (bM D.he (bB D.he d) ⟨d,b⟩):=by
 refine mn (bB D.he d) fun lo hlo=>?_;refine mn (dL D.he d) fun y hy=>?_;obtain ⟨ps,hT⟩:=hh;obtain ⟨A',c',e',hR,_⟩:=bL.helds ⟨ps,hT⟩ hs;injection e' with e1 e2 e3;rw [←e1,← e2] at hR;clear e1 e3;have HEN:Hid (D.he.length=en):=ħ e2.symm;clear e2;have HP:=ħ hP;have HB:=ħ hb;have HG:=ħ hg;have HR:=ħ hR;have HT:=ħ hT;have HS:=ħ hs;have HLO:=ħ hlo;have HY:=ħ hy;have henb:en≤800000000:=by rw [←HEN.out];exact hs.1
 have hglt:g<w.heap.size:=hg.lt;have hfg:=hg.frozen;obtain ⟨a_0,a_1,a_2,a_3,a_4,a_5,a_6,a_7,a_8,a_9⟩:=gO hg.box;clear hg hP hb hR hT hs hlo hy;go_enter func119,ntmps119
 go_wp2_with fail
 refine (gZ eA en ec D.he d lo y _ (by have:=HR.out.up (w':=w.alloc (.cells #[b.au,b.n,.slice bA bn bc] 43)) (aJ);exact this) HP.out y2 HLO.out HY.out).mono ?_;rintro e w1 ⟨rfl,hb1⟩;have hX2:Blk w1 w.heap.size 43 [b.au,b.n,.slice bA bn bc]:=(Blk.new w 43 [b.au,b.n,.slice bA bn bc]).up hb1;have hbw1:Below w w w1:=aJ;have hX1:=HG.out.up hbw1;have hz1:w.heap.size+1≤w1.heap.size:=by have:=hX2.lt;omega
 have hf1:=hX1.frozen
 have hRV:iI w eA en 4 (aO eV D.he ps):=by
  obtain ⟨A2,c2,e2,hrv,_⟩:=dC HT.out.1 y2;injection e2 with e3 e4 e5;rw [HEN.out] at hrv;rw [e3];exact hrv
 have HRV:=ħ hRV;have HBN:Hid (b.tx.length=bn):=ħ HB.out.1
 have hlole:lo≤en:=by
  have:bB D.he d≤D.he.length:=gD _ _;rw [HLO.out,HEN.out] at this;exact this
 clear hRV a_0 a_1 a_2 a_3 a_4 a_5 a_6 a_7 a_8 a_9 hb1;obtain ⟨a_0,a_1,a_2,a_3,a_4,a_5,a_6,a_7,a_8,a_9⟩:=gO hX1.box;obtain ⟨b_0,b_1,b_2⟩:=bx3 hX2.box;have HX1:=ħ hX1;clear hX1 hX2;have hglt1:g<w1.heap.size:=by omega
 go_upto_region 2 with fail
 go_region_with (first
  | (go_at_call 143;refine (xS eA en ec (aO eV D.he ps) _ (HRV.out.up (aI)) HT.out.one y2).mono ?_;rintro e wh ⟨vh,rfl,hrow,hbH⟩;obtain ⟨Ah,ch,rfl,_⟩:=dC hrow y2;obtain ⟨hz_wh,hc0_wh,hc1_wh,hf0_wh,hf1_wh⟩:=af2 hbH (w.heap.size+1) g w.heap.size;have HROW:=ħ hrow;clear hrow)
  | (go_at_call 135;refine (tU b bA bn bc _ (HB.out.up (aI)) hbn).mono ?_;rintro e wo ⟨vo,rfl,ho,hbO⟩;obtain ⟨Ao,co,rfl,_⟩:=ho.txs y69;rw [HBN.out] at ho ⊢;obtain ⟨hz_wo,hc0_wo,hc1_wo,hf0_wo,hf1_wo⟩:=af2 hbO (w.heap.size+1) g w.heap.size;have HO:=ħ ho;clear ho)
  | (go_at_call 142;refine (vL _ w.heap.size (.slice Ah en ch) en lo (aO eV D.he ps) [d,b.au,b.n,.slice Ao bn co] _ (aZ (bS HROW.out (aI)) y26) hlole y2 (by first|exact Blk.new _ _ _|exact (Blk.new _ _ _).up (aI)) (fun hq=>by (have hq2:=bV HROW.out _ hq);(have hq3:=hbO.size);(have hq4:=hbH.size);(simp at hq2 hq3 hq4);omega) HT.out.one y16 rfl y26).mono ?_;rintro e wi ⟨vi,rfl,howi,hbI,hgI,-⟩;obtain ⟨Ai,ci,rfl,_⟩:=dC howi y2;have hOT:=aP.ins (T:=eV) (x:=⟨d,b⟩) (p:=.slice Ao bn co) (i:=lo) (B:=B) ⟨(by rw [HEN.out];exact aZ (bS HROW.out (aI)) y26),HT.out.2.1,fun j hj=>((HT.out.2.2 j hj).up (aI))⟩ (by rw [HEN.out];exact hlole) (by show bD _ _ _ _;exact (HO.out.up (aI)).mono y26) (by rw [HEN.out];exact aZ howi hB) hgI;have HOT:=ħ hOT;have hbW:Below w w wi:=Below.trans (aI) hbI;have hXI:=HG.out.below hbW hglt;have hfI:=hXI.frozen;have hlI:=hXI.lt;obtain ⟨i_0,i_1,i_2,i_3,i_4,i_5,i_6,i_7,i_8,i_9⟩:=gO hXI.box;have HXI:=ħ hXI;clear hOT howi hgI hXI hbI))
 all_goals
  go_end0
  exact ⟨wi,Ai,en+1,ci,rfl,rfl,hbW,(by rw [HLO.out];exact ⟨_,HOT.out⟩)⟩
theorem FA (n q:Int) (w:World) (h0:1≤n) (h1:n≤1000) (hq:2*((n-1) / 3)+1=q):Calls prog 149 #[n] w fun e w'=>e=.returned (.int .i64 q)∧w=w':=by
 subst hq;exact sI n w h0 h1
theorem xX {w:World} {ops:Array Oper} {rest:List Oper} {o:Oper} {a:Act} {Q:Exit→Act→World→Prop} (hgd:o.guard=none) (s x:Operand)
 (ho:o.op=.call {callee:=.builtin .append,args:=#[s,x],argTypes:=#[23,23]}) (hty:o.type=23) (B:Nat) (v:Value) (n:Nat) (xs:List Value) (hs:a.eval s=v) (hown:w.ownsRow B 56 2 v n xs) (vb:Nat) (e:List Value) (hx:a.eval x=.slice (some ⟨vb,0,none⟩) 1 1)
 (he:e.length=2) (hc:∀j u,e[j]? =some u→w.cell? ⟨vb,j,none⟩=some u) (h1e:∀u∈e,u.oneCell'=true) (hn:n≤900000000) (hB:B≤w.heap.size)
 (h:∀v' w',w'.ownsRow B 56 2 v' (n+1) (xs ++ e)→w.grownBy w' v.ownBlock→Below B w w'→wpList prog ops Q rest (a.put o.dst v') w'):wpList prog ops Q (o :: rest) a w:=by
 obtain ⟨v',w',hrun,h2,h3,h4,h5⟩:=jA w B v n xs hown vb 0 1 1 e y2 (fun j u hj=>by rw [Nat.zero_add];exact hc j u hj) h1e y2 hB;exact Lib.wpList_append_run w hgd s x _ _ ho _ _ hs hx _ _ y35 (h v' w' h2 h3 h4)
noncomputable def qS (n:Int):Int:=2*((n-1) / 3)+1
noncomputable def bH (n:Int) (l:List aV):List aV:=l.filter fun x=>decide ((x.ak.length:Int)<qS n)
noncomputable def bE (n:Int):List Int→List aV→List Int
 | r,[]=>r
 | r,x :: l=>bE n (if (x.ak.length:Int)<qS n then r else if cQ r x.di then r else r ++ [x.di]) l
theorem mM (n:Int) (x:aV):∀(l:List aV) (r:List Int),bE n r (l ++ [x])=if (x.ak.length:Int)<qS n then bE n r l else if cQ (bE n r l) x.di then bE n r l else bE n r l ++ [x.di]
 | [],r=>rfl
 | y :: l,r=>by simp only [List.cons_append,bE];exact mM n x l _
theorem nY (n:Int):∀(l:List aV) (r:List Int),(bE n r l).length≤r.length+l.length
 | [],r=>by simp [bE]
 | y :: l,r=>by
  simp only [bE];refine Nat.le_trans (nY n l _) ?_
  (repeat' split)<;>simp<;>omega
theorem DE (l:List aV) (k:Nat) (h:k<l.length):l.take (k+1)=l.take k ++ [l.getD k default]:=by
 rw [List.take_add_one];simp [h]
theorem IP {w:World} {B:Nat} {qs:List Value} {l:List aV} {p:Value} {x:aV} (h:qs.length=l.length∧∀j,j<l.length→aE w B (qs.getD j default) (l.getD j default).ak) (hx:aE w B p x.ak):(qs ++ [p]).length=(l ++ [x]).length∧∀j,j<(l ++ [x]).length→aE w B ((qs ++ [p]).getD j default) ((l ++ [x]).getD j default).ak:=by
 obtain ⟨h1,h2⟩:=h;refine ⟨by simp [h1],fun j hj=>?_⟩;rw [List.length_append,List.length_singleton] at hj;rcases Nat.lt_or_ge j l.length with hlt|hge
 · have e1:(qs ++ [p]).getD j default=qs.getD j default:=by simp [List.getElem?_append,h1,hlt]
   have e2:(l ++ [x]).getD j default=l.getD j default:=by simp [List.getElem?_append,hlt]
   rw [e1,e2];exact h2 j hlt
 · obtain rfl:j=l.length:=by omega
   have e1:(qs ++ [p]).getD l.length default=p:=by rw [←h1];simp
   have e2:(l ++ [x]).getD l.length default=x:=by simp
   rw [e1,e2];exact hx
theorem Du {w:World} {B:Nat} {v p:Value} {qs:List Value} {l:List aV} {x:aV} (h1:qs.length=l.length) (h:w.ownsRow B 56 2 v (l.length+1) (aO aN l qs ++ [.int .i64 x.di,p])):w.ownsRow B 56 2 v (l ++ [x]).length (aO aN (l ++ [x]) (qs ++ [p])):=by
 rw [jK aN h1,List.length_append];exact h
theorem B7 (g B:Nat) (oA tA eA rA uA:Option Addr) (on oc tn tc en ec rn rc un uc:Nat) (D:aD) (w:World) (hg:Blk w g 142 (cU D oA on oc tA tn tc eA en ec rA rn rc uA un uc)) (hB:B≤w.heap.size) (hW:cR w B (.slice tA tn tc) D.wa) (hR:aE w B (.slice rA rn rc) D.re) (hbw:nU D.wa) (hre:D.re.length+D.wa.length≤800000000) (hris:∀x∈D.wa,dO x.ak D.nodes) (hn1:1≤D.nodes) (hn16:D.nodes≤16) :
 Calls prog 124 #[.pointer (some ⟨g,0,none⟩)] w fun e w'=>∃X A1 n1 c1 A2 n2 c2,e=.returned (.tuple #[])∧w'=(X.setCell ⟨g,6,none⟩ (.slice A1 n1 c1)).setCell ⟨g,8,none⟩ (.slice A2 n2 c2)∧Below w w X∧cR X B (.slice A1 n1 c1) (bH D.nodes D.wa)∧aE X w.heap.size (.slice A2 n2 c2) (bE D.nodes D.re D.wa):=by
 obtain ⟨ps,hT⟩:=hW;have HTN:Hid (D.wa.length=tn):=ħ y28;refine mn (2*((D.nodes-1) / 3)+1) fun q hq=>?_;have hq8:0≤q∧q≤100:=by omega
 have htn:tn≤800000000:=by rw [←HTN.out];exact hbw.1
 have HRN:Hid (D.re.length=rn∧aL w rA rn D.re):=ħ (by
  obtain ⟨A',c',e',h1,_⟩:=hR.ints y2;injection e' with e1 e2 _;rw [e1,e2];exact ⟨rfl,h1⟩)
 have hrn:rn≤800000000:=by rw [←HRN.out.1];omega
 have HG:=ħ hg;have HT:=ħ hT;have HQ:=ħ hq;have HRS:=ħ hris;have HRE:=ħ hre;have HBW:=ħ hbw;have HHR:=ħ hR;have hglt:g<w.heap.size:=hg.lt;have hfg:=hg.frozen;have hcg:Hid (∀X,Below w w X→Blk X g 142 (cU D oA on oc tA tn tc eA en ec rA rn rc uA un uc)):=ħ (fun X hX=>HG.out.up hX);obtain ⟨a_0,a_1,a_2,a_3,a_4,a_5,a_6,a_7,a_8,a_9⟩:=gO hg.box;clear hg hT hq hris hre hbw hR;go_enter func124,ntmps124
 go_wp2_with fail
 refine (jT rA rn rc D.re _ HRN.out.2 y2).mono ?_;rintro e w1 ⟨v1,rfl,hr1,hb1⟩;have hX1:=hcg.out w1 hb1;have HR1:=ħ hr1;clear hr1 a_0 a_1 a_2 a_3 a_4 a_5 a_6 a_7 a_8 a_9;obtain ⟨a_0,a_1,a_2,a_3,a_4,a_5,a_6,a_7,a_8,a_9⟩:=gO hX1.box;have hgl1:=hX1.lt;clear hX1;go_wp2_with fail
 clear a_0 a_1 a_2 a_3 a_4 a_5 a_6 a_7 a_8 a_9 hgl1
 go_loopw [2,3,18] (fun vl vr iv wr=>∃(k:Nat) (qs:List Value),k≤tn∧iv=.int .i64 k∧Hid (qs.length=(bH D.nodes (D.wa.take k)).length∧(∀j,j<(bH D.nodes (D.wa.take k)).length→aE w B (qs.getD j default) ((bH D.nodes (D.wa.take k)).getD j default).ak))∧Hid (wr.ownsRow w.heap.size 56 2 vl (bH D.nodes (D.wa.take k)).length (aO aN (bH D.nodes (D.wa.take k)) qs))∧Hid (aE wr w.heap.size vr (bE D.nodes D.re (D.wa.take k)))∧Below w w wr) (fun _ _ iv _=>tn-(intOf iv).toNat)
 case atStart=>exact ⟨0,[],Nat.zero_le _,rfl,ħ ⟨rfl,fun j hj=>absurd hj (by simp [bH])⟩,ħ (World.ownsRow_nil _ _ _ _),HR1,hb1⟩
 case round=>
  clear HR1 hb1;obtain ⟨k,qs,hk,rfl,HQS,HROW,HRR,hbw⟩:=hrel
  (obtain ⟨wk,hwk⟩:∃x,x=wr:=⟨_,rfl⟩);subst hwk
  have hXk:=hcg.out wk hbw;have hglk:=hXk.lt;have hfk:=hXk.frozen;obtain ⟨a_0,a_1,a_2,a_3,a_4,a_5,a_6,a_7,a_8,a_9⟩:=gO hXk.box;by_cases hlt:k<tn
  · have hT0:=HT.out.1;rw [HTN.out] at hT0;obtain ⟨gw,eA,hgwB,hgwl⟩:=qA hT0 y2;clear hT0;subst eA;have hkl:k<D.wa.length:=by rw [HTN.out];exact hlt
    refine mn (D.wa.getD k default) fun x hx=>?_;refine mn (ps.getD k default) fun pk hpk=>?_;have hxm:x∈D.wa:=by rw [←hx];exact cB hkl
    have hin:aE w B pk x.ak:=by rw [←hpk,← hx];exact HT.out.2.2 k hkl
    obtain ⟨Bk,ck,rfl,hik,_⟩:=hin.ints (by have:=HBW.out.2 x hxm;omega);refine mn x.ak.length fun m hm=>?_;rw [hm] at hpk hin hik;have hT2:=HT.out.1;rw [HTN.out] at hT2;obtain ⟨gg,fg⟩:=lQ hT2;have c0w:w.cell? ⟨gw,k*2,none⟩=some (.int .i64 x.di):=gg _ _ (by have:=cO aN HT.out.2.1 hkl (r:=0) (by show 0<2;omega);rw [show k*2=k*aN.k+0 from rfl,this,hpk,hx];rfl);have c1w:w.cell? ⟨gw,k*2+1,none⟩=some (.slice Bk m ck):=gg _ _ (by have:=cO aN HT.out.2.1 hkl (r:=1) y97;rw [show k*2+1=k*aN.k+1 from rfl,this,hpk,hx];rfl);have c0:wk.cell? ⟨gw,k*2,none⟩=some (.int .i64 x.di):=((aK hbw).1 gw _ hgwl).trans c0w;have c1:wk.cell? ⟨gw,k*2+1,none⟩=some (.slice Bk m ck):=((aK hbw).1 gw _ hgwl).trans c1w;have hglw:gw<wk.heap.size:=Nat.lt_of_lt_of_le hgwl hbw.size;have hxr:=HRS.out x hxm;have HXR:=ħ hxr;have HIN:=ħ hin;have HXD:=ħ hx;have HM:=ħ hm;have htk:=DE D.wa k hkl;rw [hx] at htk;have HTK:=ħ htk;have hba:Below wk wk (wk.alloc (.cells #[x.di,.slice Bk m ck] 56)):=y0;have HAK:Hid (aL (wk.alloc (.cells #[x.di,.slice Bk m ck] 56)) Bk m x.ak):=ħ ((hik.up hbw).up hba);have hA:bX (wk.alloc (.cells #[x.di,.slice Bk m ck] 56)) wk.heap.size [x.di,.slice Bk m ck]:=bX.new wk [x.di,.slice Bk m ck] 56;have hG2:=hXk.up hba;have HG2:=ħ hG2;clear a_0 a_1 a_2 a_3 a_4 a_5 a_6 a_7 a_8 a_9 hXk;obtain ⟨a_0,a_1,a_2,a_3,a_4,a_5,a_6,a_7,a_8,a_9⟩:=gO hG2.box;obtain ⟨b_0,b_1⟩:=bx2 hA;have hgl2:=hG2.lt;have hg10:g<wk.heap.size:=hglk;clear hxr hin hx hm htk gg fg c0w c1w hT2 hik hA hG2 hxm hpk;have hbk:Below w w (wk.alloc (.cells #[x.di,.slice Bk m ck] 56)):=aA hbw hba;have HBA:=ħ hba
    have hlk:(bH D.nodes (D.wa.take k)).length≤800000000:=by
     refine Nat.le_trans (List.length_filter_le _ _) ?_;rw [List.length_take];omega
    have hrk:(bE D.nodes D.re (D.wa.take k)).length≤800000000:=by
     refine Nat.le_trans (nY _ _ _) ?_;rw [List.length_take];have:=HRE.out;omega
    have HLK:=ħ hlk;have HRK:=ħ hrk;clear hlk hrk;by_cases hmq:(m:Int)<q
    · have hd:decide ((m:Int)<q)=true:=by simpa using hmq
      have HK1:Hid (bH D.nodes (D.wa.take (k+1))=bH D.nodes (D.wa.take k) ++ [x]):=ħ (by
       rw [HTK.out];unfold bH;rw [List.filter_append];simp [show (x.ak.length:Int)<qS D.nodes by unfold qS;rw [HM.out,HQ.out];exact hmq])
      have HK2:Hid (bE D.nodes D.re (D.wa.take (k+1))=bE D.nodes D.re (D.wa.take k)):=ħ (by
       rw [HTK.out,mM,if_pos y79])
      clear hmq;go_wp2_with fail
      refine aQ y8 y8 (fun ι F hne hF hcl=>?_);have hcF0:=fun n o=>(aK (hF n)).1 (g) o y4;have hcF1:=fun n o=>(aK (hF n)).1 (wk.heap.size) o y4;have HF:=ħ hF;clear hF;have HC:=ħ hcl;clear hcl
      repeat (any_goals (first
       | go_big_quiet_step (first|(go_at_call 149;exact Calls.fam_same (FA D.nodes q _ hn1 y2 HQ.out))|(go_at_call 148;exact Calls.fam HC.out (yX Bk m ck x.ak D.nodes _ (HAK.out.up (HF.out _)) HXR.out hn16)))
       | (refine gq ?_ ?_<;>intro hb)))
      all_goals (refine wpQuiet_nil ?_;intro nq)
      have hFwf:=HF.out nq;clear HF HC hne;generalize F nq=wf at *;have hbf:Below w w wf:=aA hbk hFwf;have hkf:Below wk wk wf:=aA HBA.out hFwf;have HBX:=ħ (bX.new wf [x.di,.slice Bk m ck] 56);have hAf:=(bX.new wk [x.di,.slice Bk m ck] 56).up hFwf;have hGf:=HG2.out.up hFwf;have hgf:=hGf.lt;have haf:=hAf.1;have hff:=hGf.frozen;obtain ⟨d_0,d_1⟩:=bx2 hAf;obtain ⟨e_0,e_1,e_2,e_3,e_4,e_5,e_6,e_7,e_8,e_9⟩:=gO hGf.box;clear hAf hGf;go_wp2_with (at_builtin;refine xX rfl (.tmp 37) (.tmp 39) rfl rfl w.heap.size _ _ _ rfl (bS HROW.out y3) _ [x.di,.slice Bk m ck] rfl rfl (fun j u hu=>HBX.out.2 j u hu) y16 (by have:=HLK.out;omega) (by have:=hbf.size;simp;omega) ?_;intro v5 w5 hown5 hg5 hb5)
      have hb5w:Below w w w5:=Below.trans y3 hb5;have hkept:Hid (aE w5 w.heap.size u3 (bE D.nodes D.re (D.wa.take k))):=ħ (bT (HRR.out.up y3) (bS HROW.out y3) y5 hg5)
      (refine rnd ?_;exact ⟨k+1,qs ++ [.slice Bk m ck],by omega,by go_num,ħ (by rw [HK1.out];exact IP HQS.out HIN.out),ħ (by rw [HK1.out];exact Du HQS.out.1 hown5),ħ (by rw [HK2.out];exact hkept.out),hb5w⟩)
    · have hd:decide ((m:Int)<q)=false:=by simpa using hmq
      have HK1:Hid (bH D.nodes (D.wa.take (k+1))=bH D.nodes (D.wa.take k)):=ħ (by
       rw [HTK.out];unfold bH;rw [List.filter_append];simp [show ¬(x.ak.length:Int)<qS D.nodes by unfold qS;rw [HM.out,HQ.out];exact hmq])
      have HMQ:=ħ hmq;obtain ⟨A2,c2,e2,hr2,_⟩:=HRR.out.ints (by have:=HRK.out;omega);refine mn ((bE D.nodes D.re (D.wa.take k)).length) fun n2 hn2=>?_;rw [hn2] at e2 hr2;subst e2;have HR2:=ħ hr2;have HN2:=ħ hn2;refine mn (cQ (bE D.nodes D.re (D.wa.take k)) x.di) fun y hy=>?_;have HY:=ħ hy
      have HKQ:Hid (bE D.nodes D.re (D.wa.take (k+1))=if y then bE D.nodes D.re (D.wa.take k) else bE D.nodes D.re (D.wa.take k) ++ [x.di]):=ħ (by
       rw [HTK.out,mM,if_neg y79,hy])
      clear hr2 hn2 hmq hy;go_wp2_with fail
      refine aQ y8 y8 (fun ι F hne hF hcl=>?_);have hcF0:=fun n o=>(aK (hF n)).1 (g) o y4;have hcF1:=fun n o=>(aK (hF n)).1 (wk.heap.size) o y4;have HF:=ħ hF;clear hF;have HC:=ħ hcl;clear hcl
      repeat (any_goals (first
       | go_big_quiet_step (first|(go_at_call 149;exact Calls.fam_same (FA D.nodes q _ hn1 y2 HQ.out))|(go_at_call 148;exact Calls.fam HC.out (yX Bk m ck x.ak D.nodes _ (HAK.out.up (HF.out _)) HXR.out hn16)))
       | (refine gq ?_ ?_<;>intro hb)))
      all_goals (refine wpQuiet_nil ?_;intro nq)
      have hFwf:=HF.out nq;clear HF HC hne;generalize F nq=wf at *;have hbf:Below w w wf:=aA hbk hFwf;have hkf:Below wk wk wf:=aA HBA.out hFwf;have HBX:=ħ (bX.new wf [x.di,.slice Bk m ck] 56);have hAf:=(bX.new wk [x.di,.slice Bk m ck] 56).up hFwf;have hGf:=HG2.out.up hFwf;have hgf:=hGf.lt;have haf:=hAf.1;have hff:=hGf.frozen;obtain ⟨d_0,d_1⟩:=bx2 hAf;obtain ⟨e_0,e_1,e_2,e_3,e_4,e_5,e_6,e_7,e_8,e_9⟩:=gO hGf.box;clear hAf hGf;cases y
      · have HK2:Hid (bE D.nodes D.re (D.wa.take (k+1))=bE D.nodes D.re (D.wa.take k) ++ [x.di]):=ħ (by rw [HKQ.out];rfl);clear HKQ
        go_wp2_with (first
         | (go_at_call 132;refine (cD A2 n2 c2 (bE D.nodes D.re (D.wa.take k)) x.di false _ (HR2.out.up y3) HY.out).mono ?_;rintro e w6 ⟨rfl,hb6⟩;have hf6:=(bX.new wk [x.di,.slice Bk m ck] 56).up (aA hFwf hb6);have hf6l:=hf6.1;obtain ⟨f_0,f_1⟩:=bx2 hf6;clear hf6;clear d_0 d_1 e_0 e_1 e_2 e_3 e_4 e_5 e_6 e_7 e_8 e_9)
         | (at_builtin;refine fJ rfl (.tmp 46) (.tmp 49) rfl w.heap.size (.slice A2 n2 c2) (bE D.nodes D.re (D.wa.take k)) rfl (by (have h9:=HRR.out.up (w':=w6) y3);exact h9.alloc _) _ x.di rfl (eH _ _ _) (by have:=HRK.out;omega) (by have h9:=hbf.size;have h8:=hb6.size;simp;omega) ?_;intro v5 w5 hown5 hg5 hb5 hat5))
        have hb6w:Below w w w6:=aA hbf hb6;have hb5w:Below w w w5:=Below.trans (aB hb6w) hb5;have hb6a:Below wk wk (w6.alloc (.cells #[x.di] 3)):=aB (aA hkf hb6);have hrow5:Hid (w5.ownsRow w.heap.size 56 2 u2 (bH D.nodes (D.wa.take k)).length (aO aN (bH D.nodes (D.wa.take k)) qs)):=ħ (bT (bS HROW.out hb6a) (HRR.out.up hb6a) y5 hg5)
        (refine rnd ?_;exact ⟨k+1,qs,by omega,by go_num,ħ (by rw [HK1.out];exact HQS.out),ħ (by rw [HK1.out];exact hrow5.out),ħ (by rw [HK2.out];exact hown5),hb5w⟩)
      · have HK2:Hid (bE D.nodes D.re (D.wa.take (k+1))=bE D.nodes D.re (D.wa.take k)):=ħ (by rw [HKQ.out];rfl);clear HKQ;go_wp2_with (go_at_call 132;refine (cD A2 n2 c2 (bE D.nodes D.re (D.wa.take k)) x.di true _ (HR2.out.up y3) HY.out).mono ?_;rintro e w6 ⟨rfl,hb6⟩)
        have hb6w:Below w w w6:=aA hbf hb6;have hb6k:Below wk wk w6:=aA hkf hb6
        (refine rnd ?_;exact ⟨k+1,qs,by omega,by go_num,ħ (by rw [HK1.out];exact HQS.out),ħ (by rw [HK1.out];exact (bS HROW.out hb6k)),ħ (by rw [HK2.out];exact (HRR.out.up hb6k)),hb6w⟩)
  · obtain rfl:k=tn:=by omega
    have htl:D.wa.take k=D.wa:=List.take_of_length_le (by rw [HTN.out];omega);rw [htl] at HQS HROW HRR;refine mn ((bH D.nodes D.wa).length) fun n1 hn1=>?_;have hn1b:n1≤900000000:=by rw [←hn1];refine Nat.le_trans (List.length_filter_le _ _) ?_;rw [HTN.out];omega
    rw [hn1] at HROW;obtain ⟨A1,c1,rfl,_⟩:=dC HROW.out y2;obtain ⟨A2,c2,e2,_⟩:=HRR.out.ints (by have:=nY D.nodes D.wa D.re;have:=HRE.out;omega);refine mn ((bE D.nodes D.re D.wa).length) fun n2 hn2=>?_;rw [hn2] at e2;subst e2;have HN1:=ħ hn1;clear htl hn1 hn2 hn1b;go_wp2_with fail
    go_end0
    exact ⟨wk,A1,n1,c1,A2,n2,c2,rfl,rfl,hbw,⟨qs,by rw [HN1.out];exact aZ HROW.out hB,HQS.out.1,fun j hj=>(HQS.out.2 j hj).up hbw⟩,HRR.out⟩
end Go.Proofs.YtgfakefcmbpboaaGreat
