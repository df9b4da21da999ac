/- Part 27 of what WorkerExact leans on. No conditions. -/
import Derived.Test.YtgfakefcmbpboaaGreatV26
namespace Go.Proofs.YtgfakefcmbpboaaGreat
set_option linter.all false
set_option maxRecDepth 100000
set_option maxHeartbeats 64000000
open _root_.Go.Proofs.Tryz Go.RowKit
open Tok
theorem oL {ops:Array Oper} {o:Oper} {a:Act} {w:World} {K:Act→World→Prop} {Q:Exit→Act→World→Prop} {E:Prop}
 (hg:o.guard=none) (s x:Operand) (ho:o.op=.call {callee:=.builtin .append,args:=#[s,x],argTypes:=#[25,25]}) (hty:o.type=25)
 (B:Nat) (v:Value) (l:List Int) (hs:a.eval s=v) (hown:aE w B v l) (g:Nat) (y:Int) (hx:a.eval x=.slice (some ⟨g,0,none⟩) 1 1) (hc:w.cell? ⟨g,0,none⟩=some (.int .i64 y))
 (hlen:l.length≤900000000) (hB:B≤w.heap.size)
 (h:∀v' w',aE w' B v' (l ++ [y])→w.grownBy w' v.ownBlock→Below B w w'→(v'.ownBlock=v.ownBlock∨v'.ownBlock=some w.heap.size)→K (a.put o.dst v') w') :
 if Region.wanted o (yielded ops a.tmps)=true then Oper.wp prog o a w K Q else E:=by
 have hw:Region.wanted o (yielded ops a.tmps)=true:=by simp [Region.wanted,hg]
 rw [if_pos hw]
 obtain ⟨v',w',hrun,h2,h3,h4,h5⟩:=kC w B v l.length (l.map (Value.int .i64)) hown g 0 1 1 [y] rfl
  (fun j u hj=>by cases j with
   | zero=>simp at hj;subst hj;simpa using hc
   | succ j=>simp at hj) y16 y2 hB
 have hown':aE w' B v' (l ++ [y]):=by unfold aE;simpa using h2
 exact Lib.wp_append_run w s x _ _ ho v _ hs hx v' w' y35 (h v' w' hown' h3 h4 h5)
theorem IE (l:List Int) (x:Int) (y:Bool) (h:cQ l x=y):decide (inS l x<0)=!y:=by
 subst h;unfold cQ;by_cases hm:x∈l
 · have:¬inS l x<0:=fun q=>iT.1 q hm;simp [hm,this]
 · have:inS l x<0:=iT.2 hm;simp [hm,this]
theorem IF {n:Int} (h:isS n=true):n / 3=(n-1) / 3:=by have:=tY.1 h;omega
theorem B3 (n q:Int) (w:World) (h:isS n=true) (hq:2*((n-1) / 3)+1=q):Calls prog 117 #[n] w fun e w'=>e=.returned (.int .i64 q)∧w=w':=by
 have hb:=gR h;rw [←hq,← IF h];exact FU n w y2 y2
theorem pV {w w':World} {B g k n:Nat} {t t':TypeId} {v:Value} {cs xs:List Value} (h:Blk w g t cs) (hv:w.ownsRow B t' k v n xs) (hne:t≠t') (hg:w.grownBy w' v.ownBlock):Blk w' g t cs:=pW h hv hne hg
structure KB (w w':World) (g:Nat) (rq:Option Nat):Prop where
 os:w'.os=w.os
 tape:w'.tape=w.tape
 output:w'.output=w.output
 size:w.heap.size≤w'.heap.size
 block:∀k,k<w.heap.size→k≠g→rq≠some k→w'.heap[k]? =w.heap[k]?
theorem KB.refl (w:World) (g:Nat) (rq:Option Nat):KB w w g rq:=⟨rfl,rfl,rfl,Nat.le_refl _,fun _ _ _ _=>rfl⟩
theorem KB.below {w a b:World} {g n:Nat} {rq:Option Nat} (h:KB w a g rq) (k:Below n a b) (hn:w.heap.size≤n):KB w b g rq:=⟨k.os.trans h.os,k.tape.trans h.tape,k.output.trans h.output,Nat.le_trans h.size k.size,fun i h1 h2 h3=>(k.block i y2).trans (h.block i h1 h2 h3)⟩
theorem KB.grown {w a b:World} {g:Nat} {rq v:Option Nat} (h:KB w a g rq) (k:a.grownBy b v) (hv:v=rq∨∃q,v=some q∧w.heap.size≤q):KB w b g rq:=⟨k.os.trans h.os,k.tape.trans h.tape,k.output.trans h.output,Nat.le_trans h.size k.size,fun i h1 h2 h3=>(k.block i (Nat.lt_of_lt_of_le h1 h.size) (by
 rcases hv with e|⟨q,e,hq⟩
 · rw [e];exact fun e2=>h3 e2.symm
 · rw [e];intro e2;injection e2 with e2;omega)).trans (h.block i h1 h2 h3)⟩
theorem KB.setg {w a:World} {g o:Nat} {rq:Option Nat} {u:Value} (h:KB w a g rq):KB w (a.setCell ⟨g,o,none⟩ u) g rq:=⟨h.os,h.tape,h.output,by simpa [World.setCell] using h.size,fun k h1 h2 h3=>(Below.heap_setCell _ _ _ _ h2).trans (h.block k h1 h2 h3)⟩
theorem KB.own {w w':World} {g:Nat} {rq:Option Nat} (h:KB w w' g rq) {B k n:Nat} {t:TypeId} {v:Value} {xs:List Value} (ho:w.ownsRow B t k v n xs) (hg:v.ownBlock≠some g) (hr:∀q,rq=some q→v.ownBlock≠some q):w'.ownsRow B t k v n xs:=
 jZ ho fun q hq=>h.block q (bV ho q hq).2 (fun e=>hg (by rw [hq,e])) (fun e=>hr q e hq)
theorem mY {w:World} {B k n g:Nat} {t T:TypeId} {v:Value} {xs cs:List Value} (ho:w.ownsRow B t k v n xs) (hg:Blk w g T cs) (hne:t≠T):v.ownBlock≠some g:=fun e=>by
 obtain ⟨_,c2,e2⟩:=gX ho g e;have hb':w.heap[g]? =some (.cells cs.toArray T (0,0)):=hg;rw [hb'] at e2;injection e2 with e2;injection e2 with _ e3 _;exact hne e3.symm
theorem Ax {w:World} {B B2 k k2 n n2:Nat} {t T:TypeId} {v u:Value} {xs ys:List Value} (ho:w.ownsRow B t k v n xs) (hu:w.ownsRow B2 T k2 u n2 ys) (hne:t≠T):∀q,u.ownBlock=some q→v.ownBlock≠some q:=fun q e1 e2=>by
 obtain ⟨_,c2,h2⟩:=gX ho q e2;obtain ⟨_,c3,h3⟩:=gX hu q e1;rw [h2] at h3;injection h3 with h3;injection h3 with _ e3 _;exact hne e3
def iH (ps:List Value) (l:List aV) (rq:Option Nat):Prop:=∀j,j<l.length→∀q,rq=some q→(ps.getD j default).ownBlock≠some q
def QK (w:World) (B:Nat) (rq:Option Nat) (qs:List Value) (l:List aV):Prop:=qs.length=l.length∧∀j,j<l.length→aE w B (qs.getD j default) (l.getD j default).ak∧∀q,rq=some q→(qs.getD j default).ownBlock≠some q
theorem IN {w:World} {B:Nat} {rq:Option Nat} {qs:List Value} {l:List aV} {p:Value} {x:aV} (h:QK w B rq qs l) (hx:aE w B p x.ak∧∀q,rq=some q→p.ownBlock≠some q):QK w B rq (qs ++ [p]) (l ++ [x]):=by
 obtain ⟨h1,h2⟩:=h;refine ⟨by simp [h1],fun j hj=>?_⟩;rw [List.length_append,List.length_singleton] at hj;rcases Nat.lt_or_ge j l.length with hlt|hge
 · have e1:(qs ++ [p]).getD j default=qs.getD j default:=by simp [List.getElem?_append,h1,hlt]
   have e2:(l ++ [x]).getD j default=l.getD j default:=by simp [List.getElem?_append,hlt]
   rw [e1,e2];exact h2 j hlt
 · obtain rfl:j=l.length:=by omega
   have e1:(qs ++ [p]).getD l.length default=p:=by rw [←h1];simp
   have e2:(l ++ [x]).getD l.length default=x:=by simp
   rw [e1,e2];exact hx
theorem Bf (g B:Nat) (oA tA eA rA uA:Option Addr) (on oc tn tc en ec rn rc un uc:Nat) (D:aD) (ps:List Value) (w:World) (hg:Blk w g 70 (cU D oA on oc tA tn tc eA en ec rA rn rc uA un uc)) (hB:B≤w.heap.size) (hT:aP aN w B (.slice tA tn tc) ps D.wa) (hR:aE w B (.slice rA rn rc) D.re) (hap:iH ps D.wa (Value.slice rA rn rc).ownBlock) (hbw:nU D.wa) (hre:D.re.length+D.wa.length≤800000000) (hris:∀x∈D.wa,dO x.ak D.nodes) (hns:isS D.nodes=true) :
 Calls prog 87 #[.pointer (some ⟨g,0,none⟩)] w fun e w'=>∃A1 n1 c1 A2 n2 c2,e=.returned (.tuple #[])∧Blk w' g 70 (cU D oA on oc A1 n1 c1 eA en ec A2 n2 c2 uA un uc)∧KB w w' g (Value.slice rA rn rc).ownBlock∧cR w' B (.slice A1 n1 c1) (bH D.nodes D.wa)∧aE w' B (.slice A2 n2 c2) (bE D.nodes D.re D.wa):=by
 have HTN:Hid (D.wa.length=tn):=ħ y28;refine mn (2*((D.nodes-1) / 3)+1) fun q hq=>?_;have hn1:=(gR hns).1;have hn16:=(gR hns).2;have hq8:0≤q∧q≤100:=by omega
 have htn:tn≤800000000:=by rw [←HTN.out];exact hbw.1
 refine mn ((Value.slice rA rn rc).ownBlock) fun rq hrq=>?_;rw [hrq] at hap ⊢;have hneW:∀q,rq=some q→(Value.slice tA tn tc).ownBlock≠some q:=fun q e=>Ax hT.1 (show World.ownsRow _ B 3 1 _ _ _ from hR) y5 q (by rw [hrq];exact e);have HNW:Hid ((Value.slice tA tn tc).ownBlock≠some g∧∀q,rq=some q→(Value.slice tA tn tc).ownBlock≠some q):=ħ ⟨mY hT.1 hg y5,hneW⟩;have HNP:Hid (∀(wr:World),KB w wr g rq→∀j,j<D.wa.length→aE wr B (ps.getD j default) (D.wa.getD j default).ak):=ħ (fun wr hk j hj=>hk.own (show World.ownsRow _ B 3 1 _ _ _ from hT.2.2 j hj) (mY (show World.ownsRow _ B 3 1 _ _ _ from hT.2.2 j hj) hg y5) (fun q e=>hap j hj q e));have HG:=ħ hg;have HT:=ħ hT;have HQ:=ħ hq;have HRS:=ħ hris;have HRE:=ħ hre;have HBW:=ħ hbw;have HNS:=ħ hns;have HR0:=ħ hR;have HAP:=ħ hap;have HRQ0:Hid ((Value.slice rA rn rc).ownBlock=rq∨∃q,(Value.slice rA rn rc).ownBlock=some q∧w.heap.size≤q):=ħ (.inl hrq);have hgw:g<w.heap.size:=hg.lt;clear hg hT hq hris hre hbw hR hap hns hrq hneW;go_enter func87,ntmps87
 go_wp2_with fail
 go_loopw [2,3] (fun vl iv wr=>∃(k:Nat) (qs:List Value) (r1A:Option Addr) (r1n r1c:Nat),k≤tn∧iv=.int .i64 k∧Hid (Blk wr g 70 (cU D oA on oc tA tn tc eA en ec r1A r1n r1c uA un uc))∧Hid (aE wr B (.slice r1A r1n r1c) (bE D.nodes D.re (D.wa.take k)))∧Hid ((Value.slice r1A r1n r1c).ownBlock=rq∨∃q,(Value.slice r1A r1n r1c).ownBlock=some q∧w.heap.size≤q)∧Hid (QK w B rq qs (bH D.nodes (D.wa.take k)))∧Hid (wr.ownsRow w.heap.size 56 2 vl (bH D.nodes (D.wa.take k)).length (aO aN (bH D.nodes (D.wa.take k)) qs))∧KB w wr g rq) (fun _ iv _=>tn-(intOf iv).toNat)
 case atStart=>exact ⟨0,[],rA,rn,rc,Nat.zero_le _,rfl,HG,HR0,HRQ0,ħ ⟨rfl,fun j hj=>absurd hj (by simp [bH])⟩,ħ (World.ownsRow_nil _ _ _ _),KB.refl _ _ _⟩
 case round=>
  obtain ⟨k,qs,r1A,r1n,r1c,hk,rfl,HGK,HRR,HRQ,HQS,HROW,hkb⟩:=hrel
  (obtain ⟨wk,hwk⟩:∃x,x=wr:=⟨_,rfl⟩);subst hwk
  refine nm u2 fun vl hvl=>?_;rw [←hvl] at HROW ⊢;clear hvl;have HKB:=ħ hkb;have hsk:=hkb.size;have hglk:=HGK.out.lt;obtain ⟨a_0,a_1,a_2,a_3,a_4,a_5,a_6,a_7,a_8,a_9⟩:=gO HGK.out.box;clear hkb
  have hlk:(bH D.nodes (D.wa.take k)).length≤800000000:=by
   refine Nat.le_trans (List.length_filter_le _ _) ?_;rw [List.length_take];have:=HTN.out;omega
  have hrk:(bE D.nodes D.re (D.wa.take k)).length≤800000000:=by
   refine Nat.le_trans (nY _ _ _) ?_;rw [List.length_take];have:=HRE.out;omega
  have HLK:=ħ hlk;refine mn (bE D.nodes D.re (D.wa.take k)) fun rr hrr=>?_;rw [hrr] at HRR hrk;have HRR0:=ħ hrr;clear hlk hrr;by_cases hlt:k<tn
  · have hkl:k<D.wa.length:=by rw [HTN.out];exact hlt
    have hT0:=HKB.out.own HT.out.1 HNW.out.1 HNW.out.2;rw [HTN.out] at hT0;obtain ⟨gw,eA,hgwB,hgwl⟩:=qA hT0 y2;subst eA;refine mn (D.wa.getD k default) fun x hx=>?_;refine mn (ps.getD k default) fun pk hpk=>?_;have hxm:x∈D.wa:=by rw [←hx];exact cB hkl
    have hin0:aE w B pk x.ak:=by rw [←hpk,← hx];exact HT.out.2.2 k hkl
    have hin:aE wk B pk x.ak:=by rw [←hpk,← hx];exact HNP.out wk HKB.out k hkl
    have hsp:∀q,rq=some q→pk.ownBlock≠some q:=by rw [←hpk];exact HAP.out k hkl
    obtain ⟨Bk,ck,rfl,hik,_⟩:=hin.ints (by have:=HBW.out.2 x hxm;omega);refine mn x.ak.length fun m hm=>?_;rw [hm] at hpk hin hin0 hik hsp;obtain ⟨gg,fg⟩:=lQ hT0;have c0:wk.cell? ⟨gw,k*2,none⟩=some (.int .i64 x.di):=gg _ _ (by have:=cO aN HT.out.2.1 hkl (r:=0) (by show 0<2;omega);rw [show k*2=k*aN.k+0 from rfl,this,hpk,hx];rfl);have c1:wk.cell? ⟨gw,k*2+1,none⟩=some (.slice Bk m ck):=gg _ _ (by have:=cO aN HT.out.2.1 hkl (r:=1) y97;rw [show k*2+1=k*aN.k+1 from rfl,this,hpk,hx];rfl);have HXR:=ħ (HRS.out x hxm);have HIN:=ħ hin0;have HSP:=ħ hsp;have HM:=ħ hm;have htk:=DE D.wa k hkl;rw [hx] at htk;have HTK:=ħ htk;have hgwl2:gw<wk.heap.size:=hgwl;clear hm htk gg fg hT0 hxm hpk hx hsp hin0 hin;go_upto_region 5 with fail
    have hba:Below wk wk (wk.alloc (.cells #[x.di,.slice Bk m ck] 56)):=aJ;have HAA:Hid (Blk (wk.alloc (.cells #[x.di,.slice Bk m ck] 56)) wk.heap.size 56 [x.di,.slice Bk m ck]):=ħ (Blk.new wk 56 [x.di,.slice Bk m ck]);refine nm wk.heap.size fun g4 hg4=>?_;refine nm (wk.alloc (.cells #[x.di,.slice Bk m ck] 56)) fun wa hwa=>?_;rw [←hwa,← hg4] at HAA ⊢;rw [←hwa] at hba;have hg4g:g<g4:=by rw [hg4];exact hglk
    have hswa:w.heap.size≤wa.heap.size:=Nat.le_trans hsk hba.size;have hBwa:B≤wa.heap.size:=Nat.le_trans hB hswa;have HGA:=ħ (HGK.out.up hba);have HRA:=ħ (HRR.out.up hba);have HROWA:=ħ (bS HROW.out hba);have HKA:=ħ (HKB.out.below hba hsk);have HAK:Hid (aL wa Bk m x.ak):=ħ (hik.up hba);clear hwa hg4 c0 c1 hgwl hgwl2 a_0 a_1 a_2 a_3 a_4 a_5 a_6 a_7 a_8 a_9 hik hba HGK HRR HROW HKB;obtain ⟨S0,hS0d⟩:∃S0:World→Prop,S0=fun Q=>Blk Q g4 56 [x.di,.slice Bk m ck]:=⟨_,rfl⟩;obtain ⟨S,hSd⟩:∃S:World→Prop,S=fun Q=>Blk Q g 70 [D.id,D.nodes,D.next,.slice oA on oc,D.age,D.clock,.slice (some ⟨gw,0,none⟩) tn tc,.slice eA en ec,.slice r1A r1n r1c,.slice uA un uc]∧S0 Q:=⟨_,rfl⟩;have hS1:∀Q,S Q→Q.cell? ⟨g,1,none⟩=some (.int .i64 D.nodes):=fun Q h=>by rw [hSd] at h;exact h.1.box.2 1 _ rfl
    have hS8:∀Q,S Q→Q.cell? ⟨g,8,none⟩=some (.slice r1A r1n r1c):=fun Q h=>by rw [hSd] at h;exact h.1.box.2 8 _ rfl
    have hS2:∀Q,S Q→S0 Q:=fun Q h=>by rw [hSd] at h;exact h.2
    have hSy0:∀Q,S0 Q→Q.cell? ⟨g4,0,none⟩=some (.int .i64 x.di):=fun Q h=>by rw [hS0d] at h;exact h.box.2 0 _ rfl
    have hSx0:∀Q,S Q→Q.cell? ⟨g4,0,none⟩=some (.int .i64 x.di):=fun Q h=>hSy0 Q (hS2 Q h);have hSx1:∀Q,S Q→Q.cell? ⟨g4,1,none⟩=some (.slice Bk m ck):=fun Q h=>by rw [hSd,hS0d] at h;exact h.2.box.2 1 _ rfl
    have hS:∀Q,Below wa wa Q→S Q:=fun Q hQ=>by rw [hSd,hS0d];exact ⟨HGA.out.up hQ,HAA.out.up hQ⟩
    have hSG:∀(Q:World) (cs:List Value) (_:Unit) (_:Unit),Blk Q g 70 cs→Blk Q g4 56 [x.di,.slice Bk m ck]→S0 Q:=fun Q cs _ _ _ h=>by rw [hS0d];exact h
    clear hSd hS0d;by_cases hmq:(m:Int)<q
    · have hd:decide ((m:Int)<q)=true:=by simpa using hmq
      have HK1:Hid (bH D.nodes (D.wa.take (k+1))=bH D.nodes (D.wa.take k) ++ [x]):=ħ (by
       rw [HTK.out];unfold bH;rw [List.filter_append];simp [show (x.ak.length:Int)<qS D.nodes by unfold qS;rw [HM.out,HQ.out];exact hmq])
      have HK2:Hid (bE D.nodes D.re (D.wa.take (k+1))=bE D.nodes D.re (D.wa.take k)):=ħ (by
       rw [HTK.out,mM,if_pos y79])
      clear hmq;go_upto_region 5 with fail
      refine hdq hS fun hHeld=>?_;have hbd:=bdr wa;have hZ:=hHeld;generalize wa.drew=Z at *;refine tk 0 23 ?_;refine tk 1 24 ?_;refine tk 2 25 ?_;refine tk 3 26 ?_;refine tq 4 27 hS1 ?_;refine tk 5 28 ?_;refine tq 6 29 hSx1 ?_;refine tk 8 31 ?_;refine tk 9 32 ?_;refine tk 10 33 ?_;refine tk 11 34 ?_;refine tq 12 35 hS1 ?_;refine ry 7 fun K hK=>?_;go_simp;(go_at_call 116;refine (Bg Bk m ck x.ak D.nodes _ (HAK.out.up hbd) HXR.out y2 hn16).mono ?_;rintro e w' ⟨rfl,rfl⟩)
      refine hkq hK (hZ) fun hHeld=>?_;clear hK K;refine ry 13 fun K hK=>?_;go_simp;(go_at_call 117;refine (B3 D.nodes q _ HNS.out HQ.out).mono ?_;rintro e w' ⟨rfl,rfl⟩)
      refine hkq hK (hZ) fun hHeld=>?_;clear hK K;refine tk 14 37 ?_;refine wz ?_;have HZB:=ħ hbd;clear hS hS1 hS2 hS8 hSx0 hSx1 hSG hHeld hZ;have hgz:=HGA.out.up hbd;have haz:=HAA.out.up hbd;have hgl:=hgz.lt;have hal:=haz.lt;obtain ⟨b_0,b_1⟩:=bx2 haz.box;obtain ⟨e_0,e_1,e_2,e_3,e_4,e_5,e_6,e_7,e_8,e_9⟩:=gO hgz.box;have hBX:bX (Z.alloc (.cells #[x.di,.slice Bk m ck] 56)) Z.heap.size [x.di,.slice Bk m ck]:=bX.new Z [x.di,.slice Bk m ck] 56;have HBX:=ħ hBX;have hba2:Below wa wa (Z.alloc (.cells #[x.di,.slice Bk m ck] 56)):=aB hbd;have HBA2:=ħ hba2;have hsz2:w.heap.size≤(Z.alloc (.cells #[x.di,.slice Bk m ck] 56)).heap.size:=Nat.le_trans hswa hba2.size;clear hgz haz hBX hba2;go_wp2_with (at_builtin;refine xX rfl (.tmp 38) (.tmp 40) rfl rfl w.heap.size vl _ _ rfl (bS HROWA.out HBA2.out) _ [x.di,.slice Bk m ck] rfl rfl (fun j u hu=>HBX.out.2 j u hu) y16 (by have:=HLK.out;omega) hsz2 ?_;intro v5 w5 hown5 hg5 hb5)
      have hG5:Blk w5 g 70 [D.id,D.nodes,D.next,.slice oA on oc,D.age,D.clock,.slice (some ⟨gw,0,none⟩) tn tc,.slice eA en ec,.slice r1A r1n r1c,.slice uA un uc]:=(HGA.out.up HBA2.out).below hb5 hgw;have ho5:aE w5 B (.slice r1A r1n r1c) rr:=bT (show World.ownsRow _ B 3 1 _ _ _ from HRA.out.up HBA2.out) (bS HROWA.out HBA2.out) y5 hg5;have hkb5:=(HKA.out.below HBA2.out hswa).below hb5 (Nat.le_refl _)
      (refine rnd ?_;exact ⟨k+1,qs ++ [.slice Bk m ck],r1A,r1n,r1c,by omega,by go_num,ħ hG5,by (rw [HK2.out,HRR0.out];exact ħ ho5),HRQ,by (rw [HK1.out];exact ħ (IN HQS.out ⟨HIN.out,HSP.out⟩)),by (rw [HK1.out];exact ħ (Du HQS.out.1 hown5)),hkb5⟩)
    · have hd:decide ((m:Int)<q)=false:=by simpa using hmq
      have HK1:Hid (bH D.nodes (D.wa.take (k+1))=bH D.nodes (D.wa.take k)):=ħ (by
       rw [HTK.out];unfold bH;rw [List.filter_append];simp [show ¬(x.ak.length:Int)<qS D.nodes by unfold qS;rw [HM.out,HQ.out];exact hmq])
      obtain ⟨_,_,e2,hr2,_⟩:=HRA.out.ints y2;injection e2 with e2a e2b e2c;rw [←e2a,← e2b] at hr2;have HR2:=ħ hr2;refine mn (cQ rr x.di) fun y hy=>?_;have hI:=IE rr x.di y hy
      have HKQ:Hid (bE D.nodes D.re (D.wa.take (k+1))=if y then rr else rr ++ [x.di]):=ħ (by
       rw [HTK.out,mM,if_neg y79,HRR0.out,hy])
      have hrlen:rr.length≤900000000:=by omega
      clear hr2 e2a e2b e2c hmq hy;go_upto_region 5 with fail
      refine hdq hS fun hHeld=>?_;have hbd:=bdr wa;have hZ:=hHeld;generalize wa.drew=Z at *;refine tk 0 23 ?_;refine tk 1 24 ?_;refine tk 2 25 ?_;refine tk 3 26 ?_;refine tq 4 27 hS1 ?_;refine tk 5 28 ?_;refine tq 6 29 hSx1 ?_;refine tk 8 31 ?_;refine tk 9 32 ?_;refine tk 10 33 ?_;refine tk 11 34 ?_;refine tq 12 35 hS1 ?_;refine ry 7 fun K hK=>?_;go_simp;(go_at_call 116;refine (Bg Bk m ck x.ak D.nodes _ (HAK.out.up hbd) HXR.out y2 hn16).mono ?_;rintro e w' ⟨rfl,rfl⟩)
      refine hkq hK (hZ) fun hHeld=>?_;clear hK K;refine ry 13 fun K hK=>?_;go_simp;(go_at_call 117;refine (B3 D.nodes q _ HNS.out HQ.out).mono ?_;rintro e w' ⟨rfl,rfl⟩)
      refine hkq hK (hZ) fun hHeld=>?_;clear hK K;refine tk 14 37 ?_;refine wz ?_;cases y
      · have HK2:Hid (bE D.nodes D.re (D.wa.take (k+1))=rr ++ [x.di]):=ħ (by rw [HKQ.out];rfl);clear hHeld;go_upto_region 7 with fail
        refine wp_region_held_drew (S:=S) y8 (hS _ (aA hbd (aM (Below.refl _ _)))) (fun hHeld=>?_);have hbd7:Below wa wa Z.drew:=aA hbd (aM (Below.refl _ _));have hZ7:=hHeld;clear hZ;generalize Z.drew=Z7 at *;refine tk 0 42 ?_;refine tk 1 43 ?_;refine tk 2 44 ?_;refine tk 3 45 ?_;refine tq 4 46 hS8 ?_;refine tk 5 47 ?_;refine tq 6 48 hSx0 ?_;refine ry 7 fun K hK=>?_;go_simp;(go_at_call 70;refine (eT r1A r1n r1c rr x.di _ (HR2.out.up hbd7)).mono ?_;rintro e w' ⟨rfl,rfl⟩)
        refine hkq hK (hZ7) fun hHeld=>?_;clear hK K;refine tk 8 50 ?_;refine wz ?_;clear hHeld hZ7;go_upto_region 8 with fail
        refine wp_region_held_drew (S:=fun Q=>S0 Q) y8 (hS2 _ (hS _ (aA hbd7 (aM (Below.refl _ _))))) (fun hHeld=>?_);have hbd8:Below wa wa Z7.drew:=aA hbd7 (aM (Below.refl _ _));generalize Z7.drew=Z8 at *;refine tk 0 51 ?_;refine tk 1 52 ?_;refine tk 2 53 ?_;refine tk 3 54 ?_;refine tk 4 55 ?_;refine tk 6 57 ?_;refine tq 7 58 hSy0 ?_;refine ry2 5 8 (fun K hK=>?_) fun K hK=>?_
        · skip
          have q9:=(HGA.out.up (hbd8)).box.2 8 _ rfl;have q8:=(HGA.out.up (hbd8)).lt;go_simp;clear q9 q8;refine hkq hK (hS2 _ (hS _ (hbd8))) fun hHeld=>?_;clear hK K;refine ry 8 fun K hK=>?_;go_simp;refine nm Z8.heap.size fun NB hNB=>?_;obtain ⟨ZB,hZB⟩:∃Zq:World,Zq=Z8.alloc (.cells #[x.di] 3):=⟨_,rfl⟩;rw [←hNB,← hZB];have hkB:bX ZB NB [x.di]:=by rw [hZB,hNB];exact bX.new _ [x.di] 3
          have hbB:Below Z8 Z8 ZB:=by rw [hZB];exact aB (Below.refl _ _)
          have hbB2:=aA (hbd8) hbB;clear hNB hZB;refine hkq hK (hS2 _ (hS _ hbB2)) fun hHeld=>?_;clear hK K;refine ry 9 fun K hK=>?_;refine oL rfl (.tmp 56) (.tmp 59) rfl rfl B (.slice r1A r1n r1c) rr y9 (HRA.out.up hbB2) NB x.di y9 (hkB.2 0 _ rfl) hrlen (Nat.le_trans hBwa hbB2.size) ?_;intro v7 w7 hown7 hg7 hb7 hat7;obtain ⟨A7,c7,e7,_⟩:=hown7.ints y13;refine mn ((rr ++ [x.di]).length) fun n7 hn7=>?_;rw [hn7] at e7;subst e7;have hG7:Blk w7 g 70 [D.id,D.nodes,D.next,.slice oA on oc,D.age,D.clock,.slice (some ⟨gw,0,none⟩) tn tc,.slice eA en ec,.slice r1A r1n r1c,.slice uA un uc]:=pV (HGA.out.up hbB2) (show World.ownsRow _ B 3 1 (.slice r1A r1n r1c) _ _ from HRA.out.up hbB2) y5 hg7;have hA7:Blk w7 g4 56 [x.di,.slice Bk m ck]:=pV (HAA.out.up hbB2) (show World.ownsRow _ B 3 1 (.slice r1A r1n r1c) _ _ from HRA.out.up hbB2) y5 hg7;have hkb7:=(HKA.out.below hbB2 hswa).grown hg7 (by rcases HRQ.out with h|⟨q,h1,h2⟩;exact .inl h;exact .inr ⟨q,h1,h2⟩);refine hkq hK (hSG _ _ () () hG7 hA7) fun hHeld=>?_;clear hK K;refine tk 10 61 ?_;refine tk 11 62 ?_;refine tk 12 63 ?_;refine ry 13 fun K hK=>?_;have qf:=hG7.frozen;have ql:=hG7.lt;have q9:=hG7.box.2 8 _ rfl;go_simp;clear qf ql q9;have hG8:=hG7.set_ 8 (.slice A7 n7 c7);have hA8:=hA7.far (p:=⟨g,8,none⟩) (by show g4≠g;omega) (.slice A7 n7 c7);have htg:=aC.setg (o:=8) (u:=.slice A7 n7 c7) hG7;refine hkq hK (hSG _ _ () () hG8 hA8) fun hHeld=>?_;clear hK K;refine wz ?_;have hrow8:=aR (bT (bS HROWA.out hbB2) (show World.ownsRow _ B 3 1 (.slice r1A r1n r1c) _ _ from HRA.out.up hbB2) y5 hg7) htg y5;have ho8:aE _ B _ _:=aR (show World.ownsRow _ B 3 1 _ _ _ from hown7) htg y5;have hkb8:=hkb7.setg (o:=8) (u:=.slice A7 n7 c7);have hrq8:Value.ownBlock (.slice A7 n7 c7)=rq∨∃q,Value.ownBlock (.slice A7 n7 c7)=some q∧w.heap.size≤q:=by (rcases hat7 with h|h;(rw [h];exact HRQ.out);exact .inr ⟨_,h,Nat.le_trans hswa hbB2.size⟩)
          have HG8:=ħ hG8;have HROW8:=ħ hrow8;have HO8:=ħ ho8;have HKB8:=ħ hkb8;have HRQ8:=ħ hrq8;clear hG7 hA7 hG8 hA8 htg hown7 hg7 hb7 hat7 hbB hbB2 hkB hHeld hrow8 ho8 hkb7 hkb8 hrq8 hS hS1 hS2 hS8 hSx0 hSx1 hSG;go_wp2_with fail
          (refine rnd ?_;exact ⟨k+1,qs,A7,n7,c7,by omega,by go_num,HG8,by (rw [HK2.out];exact HO8),HRQ8,by (rw [HK1.out];exact HQS),by (rw [HK1.out];exact HROW8),HKB8.out⟩)
        · skip
          go_simp;refine nm Z8.heap.size fun NB hNB=>?_;obtain ⟨ZB,hZB⟩:∃Zq:World,Zq=Z8.alloc (.cells #[x.di] 3):=⟨_,rfl⟩;rw [←hNB,← hZB];have hkB:bX ZB NB [x.di]:=by rw [hZB,hNB];exact bX.new _ [x.di] 3
          have hbB:Below Z8 Z8 ZB:=by rw [hZB];exact aB (Below.refl _ _)
          have hbB2:=aA (hbd8) hbB;clear hNB hZB;refine hkq hK (hS2 _ (hS _ hbB2)) fun hHeld=>?_;clear hK K;refine ry 5 fun K hK=>?_;have q9:=(HGA.out.up (hbB2)).box.2 8 _ rfl;have q8:=(HGA.out.up (hbB2)).lt;go_simp;clear q9 q8;refine hkq hK (hS2 _ (hS _ (hbB2))) fun hHeld=>?_;clear hK K;refine ry 9 fun K hK=>?_;refine oL rfl (.tmp 56) (.tmp 59) rfl rfl B (.slice r1A r1n r1c) rr y9 (HRA.out.up hbB2) NB x.di y9 (hkB.2 0 _ rfl) hrlen (Nat.le_trans hBwa hbB2.size) ?_;intro v7 w7 hown7 hg7 hb7 hat7;obtain ⟨A7,c7,e7,_⟩:=hown7.ints y13;refine mn ((rr ++ [x.di]).length) fun n7 hn7=>?_;rw [hn7] at e7;subst e7;have hG7:Blk w7 g 70 [D.id,D.nodes,D.next,.slice oA on oc,D.age,D.clock,.slice (some ⟨gw,0,none⟩) tn tc,.slice eA en ec,.slice r1A r1n r1c,.slice uA un uc]:=pV (HGA.out.up hbB2) (show World.ownsRow _ B 3 1 (.slice r1A r1n r1c) _ _ from HRA.out.up hbB2) y5 hg7;have hA7:Blk w7 g4 56 [x.di,.slice Bk m ck]:=pV (HAA.out.up hbB2) (show World.ownsRow _ B 3 1 (.slice r1A r1n r1c) _ _ from HRA.out.up hbB2) y5 hg7;have hkb7:=(HKA.out.below hbB2 hswa).grown hg7 (by rcases HRQ.out with h|⟨q,h1,h2⟩;exact .inl h;exact .inr ⟨q,h1,h2⟩);refine hkq hK (hSG _ _ () () hG7 hA7) fun hHeld=>?_;clear hK K;refine tk 10 61 ?_;refine tk 11 62 ?_;refine tk 12 63 ?_;refine ry 13 fun K hK=>?_;have qf:=hG7.frozen;have ql:=hG7.lt;have q9:=hG7.box.2 8 _ rfl;go_simp;clear qf ql q9;have hG8:=hG7.set_ 8 (.slice A7 n7 c7);have hA8:=hA7.far (p:=⟨g,8,none⟩) (by show g4≠g;omega) (.slice A7 n7 c7);have htg:=aC.setg (o:=8) (u:=.slice A7 n7 c7) hG7;refine hkq hK (hSG _ _ () () hG8 hA8) fun hHeld=>?_;clear hK K;refine wz ?_;have hrow8:=aR (bT (bS HROWA.out hbB2) (show World.ownsRow _ B 3 1 (.slice r1A r1n r1c) _ _ from HRA.out.up hbB2) y5 hg7) htg y5;have ho8:aE _ B _ _:=aR (show World.ownsRow _ B 3 1 _ _ _ from hown7) htg y5;have hkb8:=hkb7.setg (o:=8) (u:=.slice A7 n7 c7);have hrq8:Value.ownBlock (.slice A7 n7 c7)=rq∨∃q,Value.ownBlock (.slice A7 n7 c7)=some q∧w.heap.size≤q:=by (rcases hat7 with h|h;(rw [h];exact HRQ.out);exact .inr ⟨_,h,Nat.le_trans hswa hbB2.size⟩)
          have HG8:=ħ hG8;have HROW8:=ħ hrow8;have HO8:=ħ ho8;have HKB8:=ħ hkb8;have HRQ8:=ħ hrq8;clear hG7 hA7 hG8 hA8 htg hown7 hg7 hb7 hat7 hbB hbB2 hkB hHeld hrow8 ho8 hkb7 hkb8 hrq8 hS hS1 hS2 hS8 hSx0 hSx1 hSG;go_wp2_with fail
          (refine rnd ?_;exact ⟨k+1,qs,A7,n7,c7,by omega,by go_num,HG8,by (rw [HK2.out];exact HO8),HRQ8,by (rw [HK1.out];exact HQS),by (rw [HK1.out];exact HROW8),HKB8.out⟩)
      · have HK2:Hid (bE D.nodes D.re (D.wa.take (k+1))=bE D.nodes D.re (D.wa.take k)):=ħ (by rw [HKQ.out,HRR0.out];rfl);clear hHeld;go_upto_region 7 with fail
        refine wp_region_held_drew (S:=S) y8 (hS _ (aA hbd (aM (Below.refl _ _)))) (fun hHeld=>?_);have hbd7:Below wa wa Z.drew:=aA hbd (aM (Below.refl _ _));have hZ7:=hHeld;clear hZ;generalize Z.drew=Z7 at *;refine tk 0 42 ?_;refine tk 1 43 ?_;refine tk 2 44 ?_;refine tk 3 45 ?_;refine tq 4 46 hS8 ?_;refine tk 5 47 ?_;refine tq 6 48 hSx0 ?_;refine ry 7 fun K hK=>?_;go_simp;(go_at_call 70;refine (eT r1A r1n r1c rr x.di _ (HR2.out.up hbd7)).mono ?_;rintro e w' ⟨rfl,rfl⟩)
        refine hkq hK (hZ7) fun hHeld=>?_;clear hK K;refine tk 8 50 ?_;refine wz ?_;have HZB:=ħ hbd7;clear hS hS1 hS2 hS8 hSx0 hSx1 hSG hHeld hZ7;go_wp2_with fail
        (refine rnd ?_;exact ⟨k+1,qs,r1A,r1n,r1c,by omega,by go_num,ħ (HGA.out.up HZB.out),by (rw [HK2.out,HRR0.out];exact ħ (HRA.out.up HZB.out)),HRQ,by (rw [HK1.out];exact HQS),by (rw [HK1.out];exact ħ (bS HROWA.out HZB.out)),HKA.out.below HZB.out hswa⟩)
  · obtain rfl:k=tn:=by omega
    have hd1:decide ((k:Int)<(k:Int))=false:=by simp
    have htake:D.wa.take k=D.wa:=by rw [←HTN.out,List.take_length]
    rw [htake] at HQS HROW HRR0;have hfk:=HGK.out.frozen;have HN1:=ħ HQS.out.1
    obtain ⟨A1,n1,c1,e1⟩:∃A n c,vl=.slice A n c:=by
     rcases eD HROW.out with ⟨e,_⟩|⟨q1,c1,e,_⟩
     · exact ⟨_,_,_,e⟩
     · exact ⟨_,_,_,e⟩
    subst e1;have hG6:=HGK.out.set_ 6 (.slice A1 n1 c1);have htg:=aC.setg (o:=6) (u:=.slice A1 n1 c1) HGK.out;have hW6:cR (wk.setCell ⟨g,6,none⟩ (.slice A1 n1 c1)) B (.slice A1 n1 c1) (bH D.nodes D.wa):=⟨qs,aZ (aR HROW.out htg y5) hB,HQS.out.1,fun j hj=>aR (HKB.out.own (show World.ownsRow _ B 3 1 _ _ _ from (HQS.out.2 j hj).1) (mY (show World.ownsRow _ B 3 1 _ _ _ from (HQS.out.2 j hj).1) HG.out y5) (HQS.out.2 j hj).2) htg y5⟩;have hR6:aE (wk.setCell ⟨g,6,none⟩ (.slice A1 n1 c1)) B (.slice r1A r1n r1c) (bE D.nodes D.re D.wa):=by rw [HRR0.out];exact aR (show World.ownsRow _ B 3 1 _ _ _ from HRR.out) htg y5
    have HG6:=ħ hG6;have HW6:=ħ hW6;have HR6:=ħ hR6;have hkb6:=HKB.out.setg (o:=6) (u:=.slice A1 n1 c1);clear hG6 htg hW6 hR6 htake;go_wp2_with fail
    go_end0
    exact ⟨A1,n1,c1,r1A,r1n,r1c,rfl,HG6.out,hkb6,HW6.out,HR6.out⟩
end Go.Proofs.YtgfakefcmbpboaaGreat
