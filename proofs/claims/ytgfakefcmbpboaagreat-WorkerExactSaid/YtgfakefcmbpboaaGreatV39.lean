/- Part 39 of what WorkerExact leans on. No conditions. -/
import Derived.Test.YtgfakefcmbpboaaGreatV20
namespace Go.Proofs.YtgfakefcmbpboaaGreat
set_option linter.all false
set_option maxRecDepth 100000
set_option maxHeartbeats 64000000
open _root_.Go.Proofs.Tryz Go.RowKit
open Tok
def nH (l:List Int) (x:Int):Nat:=cnt (fun y=>decide (y<x)) l
theorem Cn (l:List Int) (x:Int):nH l x≤l.length:=gD _ _
theorem EE {l:List Int} {x:Int} {i:Nat} (hi:i≤l.length) (h1:∀j,j<i→nth l j<x) (h2:i<l.length→x≤nth l i):nH l x=i:=
 sG _ l i hi (fun t ht=>by have:=h1 t ht;simpa [nth] using this) (fun ht=>by have:=h2 ht;simpa [nth] using this)
def iQ (l:List Int) (x:Int):List Int:=if cQ l x=true then l else bM l (nH l x) x
theorem AF (l:List Int) (x:Int):(iQ l x).length≤l.length+1:=by
 unfold iQ;split
 · omega
 · rw [cP (Cn l x)];omega
noncomputable def iR (wa:List aV) (who d:Int):List aV:=if eW wa d=true then wa.set (eK wa d) ⟨d,iQ (wth wa (eK wa d)).ak who⟩ else wa
theorem IX {l:List aV} {i j:Nat} {x:aV} (hi:i<l.length):wth (l.set i x) j=if j=i then x else wth l j:=by
 unfold wth;simp only [List.getD_eq_getElem?_getD];by_cases h:j=i
 · subst h;rw [if_pos rfl,List.getElem?_set,if_pos rfl,if_pos hi];rfl
 · rw [if_neg h,List.getElem?_set,if_neg (fun e=>h e.symm)]
theorem Cb {wa:List aV} {who d:Int} (h:eW wa d=false):iR wa who d=wa:=by
 unfold iR;rw [if_neg (by rw [h];simp)]
theorem sE {wa:List aV} {who d:Int} {lo:Nat} (hlo:eK wa d=lo) (h:eW wa d=true):iR wa who d=wa.set lo ⟨(wth wa lo).di,iQ (wth wa lo).ak who⟩:=by
 obtain ⟨h1,h2⟩:=iN hlo h;unfold iR;rw [if_pos h,hlo,h2]
theorem EN {wa:List aV} {who d:Int} {lo:Nat} (hlo:eK wa d=lo) (h:eW wa d=true) (hm:cQ (wth wa lo).ak who=true):iR wa who d=wa:=by
 obtain ⟨h1,h2⟩:=iN hlo h;rw [sE hlo h];have e:iQ (wth wa lo).ak who=(wth wa lo).ak:=by unfold iQ;rw [if_pos hm]
 rw [e];apply List.ext_getElem y17;intro j h3 h4;rw [List.getElem_set];split
 · rename_i hj;subst hj;simp [wth,h4]
 · rfl
theorem sD (wa:List aV) (who d:Int):(iR wa who d).length=wa.length:=by
 unfold iR;split<;>simp
theorem AG {wa:List aV} {who d:Int} {x:aV} (h:x∈iR wa who d):x∈wa∨∃y∈wa,x=⟨y.di,iQ y.ak who⟩:=by
 cases hk:eW wa d
 · rw [Cb hk] at h;exact .inl h
 · rw [sE rfl hk] at h;rcases List.mem_or_eq_of_mem_set h with h|h
   · exact .inl h
   · exact .inr ⟨_,cB (iN rfl hk).1,h⟩
theorem Cl {l:List Int} {p:Nat} {x:Int} (hp:p≤l.length) (i:Nat):nth (bM l p x) i=if i<p then nth l i else if i=p then x else nth l (i-1):=by
 have hlt:(l.take p).length=p:=by rw [List.length_take];omega
 unfold bM nth;simp only [List.getD_eq_getElem?_getD];by_cases h1:i<p
 · rw [if_pos h1,List.getElem?_append_left y2,List.getElem?_take,if_pos h1]
 · rw [if_neg h1,List.getElem?_append_right y2,hlt];by_cases h2:i=p
   · rw [if_pos h2,h2,Nat.sub_self];rfl
   · rw [if_neg h2,show i-p=(i-p-1)+1 by omega,List.getElem?_cons_succ,List.getElem?_drop,show p+(i-p-1)=i-1 by omega]
theorem FT {l:List Int} {x:Int} {i:Nat} (h:i<nH l x):nth l i<x:=by
 have hl:nH l x≤l.length:=gD _ _
 have hm:=wR (fun y=>decide (y<x)) l (nth l i) (by
  have e:nth l i=(l.take (nH l x)).getD i default:=by
   unfold nth;simp only [List.getD_eq_getElem?_getD,List.getElem?_take,if_pos h];rfl
  rw [e];exact cB (by rw [List.length_take];show i<min (nH l x) _;omega))
 simpa using hm
theorem Fc {l:List Int} {x:Int} (h:nH l x<l.length):x≤nth l (nH l x):=by
 have h0:=sH (fun y=>decide (y<x)) l h;have e:nth l (nH l x)=l.getD (cnt (fun y=>decide (y<x)) l) default:=rfl;rw [e];simpa using h0
theorem EM {l:List Int} {x n:Int} (h:dO l n) (h1:1≤x) (h2:x≤n):dO (iQ l x) n:=by
 unfold iQ;split
 · exact h
 · rename_i hm;have hp:=Cn l x;have hne:∀i,i<l.length→nth l i≠x:=fun i hi e=>hm (by unfold cQ;exact decide_eq_true (Au.2 ⟨i,hi,e⟩))
   have hhi:∀i,nH l x≤i→i<l.length→x<nth l i:=fun i g1 g2=>by
    have a1:=Fc (l:=l) (x:=x) y2;have a2:=hne i g2;rcases Nat.lt_or_ge (nH l x) i with g|g
    · have:=h.1 _ _ g g2;omega
    · have e:nH l x=i:=by omega
      rw [e] at a1;omega
   refine ⟨fun i j hij hj=>?_,fun j hj=>?_⟩
   · rw [cP hp] at hj;rw [Cl hp,Cl hp];by_cases g1:i<nH l x
     · rw [if_pos g1];have a1:=FT g1;by_cases g2:j<nH l x
       · rw [if_pos g2];exact h.1 i j hij y2
       · rw [if_neg g2];by_cases g3:j=nH l x
         · rw [if_pos g3];exact a1
         · rw [if_neg g3];have:=hhi (j-1) y2 y2;omega
     · rw [if_neg g1];by_cases g2:i=nH l x
       · rw [if_pos g2,if_neg y2,if_neg y2];exact hhi (j-1) y2 y2
       · rw [if_neg g2,if_neg y2,if_neg y2];exact h.1 (i-1) (j-1) y2 y2
   · rw [cP hp] at hj;rw [Cl hp];by_cases g1:j<nH l x
     · rw [if_pos g1];exact h.2 j y2
     · rw [if_neg g1];by_cases g2:j=nH l x
       · rw [if_pos g2];exact ⟨h1,h2⟩
       · rw [if_neg g2];exact h.2 (j-1) y2
theorem BP {wa:List aV} {who d n:Int} (h:∀x∈wa,dO x.ak n) (h1:1≤who) (h2:who≤n):∀x∈iR wa who d,dO x.ak n:=fun x hx=>by
 rcases AG hx with hx|⟨y,hy,rfl⟩
 · exact h x hx
 · exact EM (h y hy) h1 h2
theorem CO {wa:List aV} {who d:Int} (h:nU wa) (hl:∀x∈wa,x.ak.length≤1000000):nU (iR wa who d):=⟨by rw [sD];exact h.1,fun x hx=>by
 rcases AG hx with hx|⟨y,hy,rfl⟩
 · exact h.2 x hx
 · have:=AF y.ak who;have:=hl y hy;show (iQ y.ak who).length≤_;omega⟩
noncomputable def Br (D:aD) (who d:Int):aD:={D with wa:=bH D.nodes (iR D.wa who d),re:=bE D.nodes D.re (iR D.wa who d)}
theorem EY {l:List Int} {k:Nat} {x:Int}:(l.map (Value.int .i64)).take k ++ [Value.int .i64 x] ++ (l.map (Value.int .i64)).drop k=(bM l k x).map (Value.int .i64):=by
 unfold bM;simp [List.map_take,List.map_drop]
theorem CA (gs B:Nat) (c0 c1 c2 c3 c4 c5 c7 c8 c9:Value) (tA:Option Addr) (tn tc:Nat) (wa:List aV) (who d:Int) (w:World) (hg:Blk w gs 142 [c0,c1,c2,c3,c4,c5,.slice tA tn tc,c7,c8,c9]) (hB:B≤w.heap.size) (hT:cR w B (.slice tA tn tc) wa) (hP:gK wa) (hbig:nU wa) (hris:∀x∈wa,mH x.ak) (hak:∀x∈wa,x.ak.length≤1000000) (lo:Nat) (hlo:eK wa d=lo) (hy:eW wa d=true) (hm:cQ (wth wa lo).ak who=false) :
 Calls prog 134 #[.pointer (some ⟨gs,0,none⟩),who,d] w fun e w'=>∃A n c,e=.returned (.tuple #[])∧But w.heap.size gs w w'∧Blk w' gs 142 [c0,c1,c2,c3,c4,c5,.slice A n c,c7,c8,c9]∧cR w' B (.slice A n c) (iR wa who d):=by
 have hT0:=hT;obtain ⟨ps,hTT⟩:=hT;obtain ⟨A',c',e',hW,-,-⟩:=hT0.waits hbig;injection e' with e1 e2 e3;rw [←e1,← e2] at hW;have HTN:Hid (wa.length=tn):=ħ e2.symm;clear e1 e2 e3 hT0;have HAW:=ħ (sE (who:=who) hlo hy);obtain ⟨hlw,-⟩:=iN hlo hy;have HTT:=ħ hTT;have HTT2:=ħ hTT.2.1;have HW:=ħ hW;have HP:=ħ hP;have HLO:=ħ hlo;have HY:=ħ hy;have HM:=ħ hm;have HRS:=ħ (hris _ (cB hlw));have HG:=ħ hg;have htn:tn≤800000000:=by rw [←hW.1];exact hbig.1
 have hgl:=hg.lt;have g6:=hg.box.2 6 _ rfl;have hlt0:0<tn:=by rw [←HTN.out];omega
 have hltn:lo<tn:=by rw [←HTN.out];exact hlw
 obtain ⟨b,off,e1,hb,hc⟩:=hW.2.2 y2;obtain ⟨nA,nn,nc,⟨f0,f1⟩,hNT⟩:=hc lo hltn;have HNT:=ħ hNT;have HF:=ħ (And.intro f0 f1);have hnn:nn≤1000000:=by rw [←hNT.1];exact hak _ (cB hlw)
 have HNN:Hid ((wth wa lo).ak.length=nn):=ħ hNT.1
 have HRV:Hid (iI w tA tn 2 (aO aN wa ps)):=ħ (by
  obtain ⟨A2,c2,e2,hrv,_⟩:=dC hTT.1 (by rw [HTN.out];omega);injection e2 with e3 e4 e5;rw [HTN.out] at hrv;rw [e3];exact hrv)
 have hHL:Hid (iQ (wth wa lo).ak who=bM (wth wa lo).ak (nH (wth wa lo).ak who) who):=ħ (by unfold iQ;rw [if_neg (by rw [hm];simp)]);subst e1;clear hg hW hP hlo hy hm hc f0 f1 hNT hris hak hTT hbig;go_enter func134,ntmps134
 go_upto_region 2 with (go_at_call 120;refine (nE (some ⟨b,off,none⟩) tn tc wa d lo true _ HW.out HP.out y2 HLO.out HY.out).mono ?_;rintro e w1 ⟨rfl,hb1⟩)
 have q0:=(hb1.cell (p:=⟨b,off+lo*2,none⟩) hb).trans HF.out.1;have q1:=(hb1.cell (p:=⟨b,off+lo*2+1,none⟩) hb).trans HF.out.2;have g61:=(hb1.cell (p:=⟨gs,6,none⟩) hgl).trans g6;have hgl1:gs<w1.heap.size:=Nat.lt_of_lt_of_le hgl hb1.size;have hbl1:b<w1.heap.size:=Nat.lt_of_lt_of_le hb hb1.size;go_upto_region 3 with fail
 refine aW (fun W hW=>?_);refine nm w1.heap.size fun gx hgx=>?_;have HBX:Hid (Blk W gx 56 [.int .i64 (wth wa lo).di,.slice nA nn nc]):=ħ (by rw [hW,hgx];exact Blk.new w1 56 [.int .i64 (wth wa lo).di,.slice nA nn nc]);have hb1W:Below w1 w1 W:=by rw [hW];exact aB (Below.refl _ _)
 rw [←hgx];have hgxw:w.heap.size≤gx:=by rw [hgx];exact hb1.size
 have hgsx:gs<gx:=by omega
 have hbW:=aA hb1 hb1W;have HGW:=ħ (HG.out.up hbW);have HNW:=ħ (HNT.out.up hbW);clear hW hgx hb1W hb1 q0 q1 g61 g6 hbl1 hgl1;have x1:=HBX.out.box.2 1 _ rfl;have xl:=HBX.out.lt;go_upto_region 5 with (go_at_call 154;refine (lL nA nn nc (wth wa lo).ak who _ HNW.out HRS.out y2).mono ?_;rintro e w2 ⟨k,rfl,hkn,hk1,hk2,hb2⟩;rw [HM.out])
 clear x1 xl
 have HIN:Hid (((wth wa lo).ak.map (Value.int .i64)).take k ++ [Value.int .i64 who] ++ ((wth wa lo).ak.map (Value.int .i64)).drop k=(iQ (wth wa lo).ak who).map (Value.int .i64)):=ħ (by
  rw [EY,hHL.out,EE (i:=k) (by rw [HNN.out];exact hkn) hk1 (fun h=>hk2 k (Nat.le_refl _) (by rw [←HNN.out];exact h))])
 have HLA:Hid ((iQ (wth wa lo).ak who).length=nn+1):=ħ (by rw [hHL.out,cP (Cn _ _),HNN.out]);have HB2:=ħ (HBX.out.up hb2);have HG2:=ħ (HGW.out.up hb2);have HNT2:=ħ (HNW.out.up hb2);have hb2':=aA hbW hb2;clear hb2 hbW hk1 hk2 HBX HGW HNW;have hb2:=hb2';clear hb2';have x1:=HB2.out.box.2 1 _ rfl;have xl:=HB2.out.lt;go_upto_region 6 with (first|(go_at_call 125;refine (jT nA nn nc (wth wa lo).ak _ HNT2.out y2).mono ?_;rintro e wl ⟨vl,rfl,hol,hbl⟩;obtain ⟨Al,cl,rfl,-⟩:=hol.ints (by rw [HNN.out];omega);rw [HNN.out] at hol ⊢;have hkB9:=Blk.new wl 3 [who];have hbB:Below wl wl (wl.alloc (.cells #[who] 3)):=aB (Below.refl _ _);have hown9:World.ownsRow (wl.alloc (.cells #[who] 3)) w2.heap.size 3 1 (.slice Al nn cl) nn ((wth wa lo).ak.map (Value.int .i64)):=(by have h8:aE _ w2.heap.size (.slice Al nn cl) (wth wa lo).ak:=hol.up hbB;unfold aE at h8;rw [HNN.out] at h8;exact h8);have hfar:¬(Value.slice Al nn cl).ownBlock=some wl.heap.size:=fun hq=>absurd (bV (show World.ownsRow _ _ 3 1 _ _ _ from hol) wl.heap.size hq).2 (Nat.lt_irrefl _))|(go_at_call 155;refine (xT _ w2.heap.size (.slice Al nn cl) nn k ((wth wa lo).ak.map (Value.int .i64)) [who] wl.heap.size hown9 hkn y2 hkB9 hfar (fun u hu=>(by simp only [List.mem_map] at hu;obtain ⟨y,_,rfl⟩:=hu;rfl)) y16 rfl (Nat.le_trans hbl.size hbB.size)).mono ?_;rintro e wi ⟨vi,rfl,howi,hbI,-,-⟩;rw [HIN.out] at howi;obtain ⟨Ai,ci,rfl,-⟩:=dC howi y2;have hoI:aE wi w2.heap.size (.slice Ai (nn+1) ci) (iQ (wth wa lo).ak who):=(by unfold aE;rw [HLA.out];exact howi);have hbI2:Below w2 w2 wi:=(aA hbl hbB).trans hbI;have hB0:=HB2.out.up hbI2;have qf:=hB0.frozen;have ql:=hB0.lt;have q9:=hB0.box.2 1 _ rfl))
 clear qf ql q9 x1 xl;have hB1:=hB0.set_ 1 (.slice Ai (nn+1) ci);have htY:=aC.setg (o:=1) (u:=.slice Ai (nn+1) ci) hB0;have hGI:=(HG2.out.up hbI2).tk htY y5;have hOI:aE _ w2.heap.size (.slice Ai (nn+1) ci) (iQ (wth wa lo).ak who):=aR (show World.ownsRow _ _ 3 1 _ _ _ from hoI) htY y5;have hbY:Below w w (wi.setCell ⟨gx,1,none⟩ (.slice Ai (nn+1) ci)):=(hb2.trans (hbI2.mono hb2.size)).setCell (p:=⟨gx,1,none⟩) hgxw _;refine nm (wi.setCell ⟨gx,1,none⟩ (.slice Ai (nn+1) ci)) fun Y hY=>?_;rw [←hY] at hB1 hGI hOI hbY ⊢;have HBY:=ħ hB1;have HGY:=ħ hGI;have HOY:=ħ (hOI.mono (B':=w.heap.size) hb2.size);have HBWY:=ħ hbY;clear hY hB1 hGI hOI hbY htY hB0 hoI howi hown9 hkB9 hol hbl hbB hbI hbI2 HB2 HG2 HNT2 hb2 hfar;have y9:=HGY.out.box.2 6 _ rfl;have yl:=HGY.out.lt;go_upto_region 7 with (go_at_call 122;refine (dM (some ⟨b,off,none⟩) tn tc (aO aN wa ps) _ (HRV.out.up HBWY.out) HTT.out.one y2).mono ?_;rintro e wc ⟨vc,rfl,hoc,hbc⟩;obtain ⟨Ac,cc,rfl,-⟩:=dC hoc y2;obtain ⟨gc,ec,hgc1,hgc2⟩:=qA hoc hlt0;subst ec;have hG6:=HGY.out.up hbc;have qf:=hG6.frozen;have ql:=hG6.lt;have q9:=hG6.box.2 6 _ rfl)
 clear qf ql q9 y9 yl;have htV:=aC.setg (o:=6) (u:=.slice (some ⟨gc,0,none⟩) tn cc) hG6;have hGV:=hG6.set_ 6 (.slice (some ⟨gc,0,none⟩) tn cc);have hBV:=(HBY.out.up hbc).tk htV y5;have hOV:aE _ w.heap.size (.slice Ai (nn+1) ci) (iQ (wth wa lo).ak who):=aR (show World.ownsRow _ _ 3 1 _ _ _ from HOY.out.up hbc) htV y5;have hgcY:Y.heap.size≤gc:=hgc1;have hTV:aP aN (wc.setCell ⟨gs,6,none⟩ (.slice (some ⟨gc,0,none⟩) tn cc)) B (.slice (some ⟨gc,0,none⟩) tn cc) ps wa:=⟨by rw [HTN.out];exact aZ (aR hoc htV y5) (by exact Nat.le_trans hB HBWY.out.size),HTT.out.2.1,fun j hj=>aR (show World.ownsRow _ _ 3 1 _ _ _ from (HTT.out.2.2 j hj).up (aA HBWY.out hbc)) htV y5⟩;have hbtV:But w.heap.size gs w (wc.setCell ⟨gs,6,none⟩ (.slice (some ⟨gc,0,none⟩) tn cc)):=(But.of_below (HBWY.out.trans (hbc.mono HBWY.out.size))).setg;refine nm (wc.setCell ⟨gs,6,none⟩ (.slice (some ⟨gc,0,none⟩) tn cc)) fun V hV=>?_;rw [←hV] at hGV hBV hOV hTV hbtV ⊢;have hYg:=HBY.out.lt;have hgcx:gc≠gx:=by omega
 have hYs:=HGY.out.lt;have hgcs:gc≠gs:=by omega
 have hgcw:w.heap.size≤gc:=by have:=HBWY.out.size;omega
 have HGV:=ħ hGV;have HBV:=ħ hBV;have HOV:=ħ hOV;have HTV:=ħ hTV;have HBTV:=ħ hbtV;clear hV hGV hBV hOV hTV hbtV htV hG6 hoc hbc HGY HBY HOY hYg hYs hgcY hgc1 hgc2 HTT HRV;obtain ⟨S,hSd⟩:∃S:World→Prop,S=fun Q=>Q.cell? ⟨gs,6,none⟩=some (.slice (some ⟨gc,0,none⟩) tn cc)∧Q.rangeAt gx 0 [.int .i64 (wth wa lo).di,.slice Ai (nn+1) ci]:=⟨_,rfl⟩;have hS6:∀Q,S Q→Q.cell? ⟨gs,6,none⟩=some (.slice (some ⟨gc,0,none⟩) tn cc):=fun Q h=>by rw [hSd] at h;exact h.1
 have hSx:∀Q,S Q→Q.rangeAt gx 0 [.int .i64 (wth wa lo).di,.slice Ai (nn+1) ci]:=fun Q h=>by rw [hSd] at h;exact h.2
 have hS9:∀Q,S Q→∀a b,S ((Q.setCell ⟨gc,lo*2,none⟩ a).setCell ⟨gc,lo*2+1,none⟩ b):=fun Q h a b=>by
  rw [hSd] at h ⊢;have key:∀g o v,gc≠g→Q.cell? ⟨g,o,none⟩=some v→((Q.setCell ⟨gc,lo*2,none⟩ a).setCell ⟨gc,lo*2+1,none⟩ b).cell? ⟨g,o,none⟩=some v:=fun g o v hne hv=>(World.cell?_setCell_other _ _ _ _ y15).trans ((World.cell?_setCell_other _ _ _ _ y15).trans hv);exact ⟨key _ _ _ hgcs h.1,fun j v hv=>key _ _ _ hgcx (h.2 j v hv)⟩
 have hS0:S V.drew:=by
  rw [hSd];exact ⟨(HGV.out.up (aM (Below.refl _ _))).box.2 6 _ rfl,(HBV.out.up (aM (Below.refl _ _))).rng⟩
 clear hSd;refine wp_region_held_drew (S:=S) y8 hS0 (fun hHeld=>?_);have hbd7:=bdr V;have hZ7:=hHeld;clear hS0;generalize V.drew=Z7 at *;refine tk 0 58 ?_;refine tk 1 59 ?_;refine tk 2 60 ?_;refine tk 3 61 ?_;refine tq 4 62 hS6 ?_;refine tk 5 63 ?_;refine ld 6 64 hSx underlying56 ?_;refine tk 7 65 ?_;refine ry 8 fun K hK=>?_;have hr7:Z7.ownsRow B 56 2 (.slice (some ⟨gc,0,none⟩) tn cc) tn (aO aN wa ps):=by have h8:=(HTV.out.up hbd7).1;rw [HTN.out] at h8;exact h8
 obtain ⟨gg,fg⟩:=lQ hr7;have q0:Z7.cell? ⟨gc,lo*2,none⟩=some (.int .i64 (wth wa lo).di):=gg _ _ (by rw [show lo*2=lo*aN.k+0 from rfl,cO aN HTT2.out (j:=lo) (r:=0) hlw y5];rfl);have q1:Z7.cell? ⟨gc,lo*2+1,none⟩=some (ps.getD lo default):=gg _ _ (by rw [show lo*2+1=lo*aN.k+1 from rfl,cO aN HTT2.out (j:=lo) (r:=1) hlw y5];rfl);have ql:=(bV hr7 gc rfl).2;clear gg hr7;go_simp;clear q0 q1 ql fg;refine hk hK (hS9 _ hZ7 _ _) fun hHeld=>?_;clear hK K;refine wz ?_;have hP7:=Fr (i:=lo) (p:=.slice Ai (nn+1) ci) (ak:=iQ (wth wa lo).ak who) (by rw [HTN.out];exact HTV.out.up hbd7) hlw ((HOV.out.up hbd7).mono hB);have hG7:=((HGV.out.up hbd7).far (p:=⟨gc,lo*2,none⟩) (by show gs≠gc;omega) (.int .i64 (wth wa lo).di)).far (p:=⟨gc,lo*2+1,none⟩) (by show gs≠gc;omega) (.slice Ai (nn+1) ci);have hbt7:But w.heap.size gs w ((Z7.setCell ⟨gc,lo*2,none⟩ (.int .i64 (wth wa lo).di)).setCell ⟨gc,lo*2+1,none⟩ (.slice Ai (nn+1) ci)):=(HBTV.out.trans (But.of_below (hbd7.mono HBTV.out.size))).trans (But.of_below (((Below.refl _ _).setCell (p:=⟨gc,lo*2,none⟩) hgcw _).setCell (p:=⟨gc,lo*2+1,none⟩) hgcw _));rw [HTN.out] at hP7
 go_end0
 exact ⟨some ⟨gc,0,none⟩,tn,cc,rfl,hbt7,hG7,_,by rw [HAW.out];exact hP7⟩
theorem F0 (gs B:Nat) (c0 c1 c2 c3 c4 c5 c7 c8 c9:Value) (tA:Option Addr) (tn tc:Nat) (wa:List aV) (who d:Int) (w:World) (hg:Blk w gs 142 [c0,c1,c2,c3,c4,c5,.slice tA tn tc,c7,c8,c9]) (hB:B≤w.heap.size) (hT:cR w B (.slice tA tn tc) wa) (hP:gK wa) (hbig:nU wa) (hris:∀x∈wa,mH x.ak) (hak:∀x∈wa,x.ak.length≤1000000) :
 Calls prog 134 #[.pointer (some ⟨gs,0,none⟩),who,d] w fun e w'=>∃A n c,e=.returned (.tuple #[])∧But w.heap.size gs w w'∧Blk w' gs 142 [c0,c1,c2,c3,c4,c5,.slice A n c,c7,c8,c9]∧cR w' B (.slice A n c) (iR wa who d):=by
 refine mn (eK wa d) fun lo hlo=>?_
 have main:(eW wa d=false∨eW wa d=true∧cQ (wth wa (eK wa d)).ak who=true)→iR wa who d=wa→Calls prog 134 #[.pointer (some ⟨gs,0,none⟩),who,d] w fun e w'=>∃A n c,e=.returned (.tuple #[])∧But w.heap.size gs w w'∧Blk w' gs 142 [c0,c1,c2,c3,c4,c5,.slice A n c,c7,c8,c9]∧cR w' B (.slice A n c) (iR wa who d):=fun h he=>by
  obtain ⟨A',c',e',hW,-,-⟩:=hT.waits hbig;injection e' with e1 e2 e3;rw [←e1,← e2] at hW;exact (DB gs c0 c1 c2 c3 c4 c5 c7 c8 c9 tA tn tc wa who d w hg hW hP hbig hris hak h).mono fun e w' ⟨h1,h2⟩=>⟨tA,tn,tc,h1,But.of_below h2,hg.up h2,by rw [he];exact hT.up h2⟩
 cases hy:eW wa d
 · exact main (.inl hy) (Cb hy)
 · cases hm:cQ (wth wa lo).ak who
   · exact CA gs B c0 c1 c2 c3 c4 c5 c7 c8 c9 tA tn tc wa who d w hg hB hT hP hbig hris hak lo hlo hy hm
   · exact main (.inr ⟨hy,by rw [hlo];exact hm⟩) (EN hlo hy hm)
theorem zO {w:World} {ops:Array Oper} {rest:List Oper} {o:Oper} {a:Act} {Q:Exit→Act→World→Prop} (hgd:o.guard=none) (s x:Operand)
 (ho:o.op=.call {callee:=.builtin .append,args:=#[s,x],argTypes:=#[25,25]})
 (g n cap:Nat) (hs:a.eval s=.slice (some ⟨g,0,none⟩) n cap) (hnc:n≤cap) (xa:Option Addr) (c:Nat) (hx:a.eval x=.slice xa 0 c)
 (h:wpList prog ops Q rest (a.put o.dst (.slice (some ⟨g,0,none⟩) n cap)) w):wpList prog ops Q (o :: rest) a w:=by
 obtain ⟨i0,hi,hz,hz1,hz2⟩:=info_parts wY;refine wpList_plain hgd fun K hK=>?_
 have hrun:(Builtin.append_ #[25,25] o.type #[.slice (some ⟨g,0,none⟩) n cap,.slice xa 0 c]).run prog w=.ok (.slice (some ⟨g,0,none⟩) n cap) w:=by
  cases xa<;>simp [Builtin.append_,run_underlying underlying25,sizeOf,typeInfo,hi,Builtin.lenOf,Builtin.firstCells,loadCells,loadCellsFrom,hnc,storeCells]
 unfold Oper.wp execOp;simp only [ho,resolve,invoke,builtin,Sem.run_bind,Sem.run_pure,Result.andThen_ok,List.map_toArray,List.map_cons,List.map_nil,hs,hx,hrun];exact hK _ _ h
theorem aE.cap {w:World} {B:Nat} {A:Option Addr} {n c:Nat} {l:List Int} (h:aE w B (.slice A n c) l):n≤c∧c≤9223372036854775807:=by
 rcases h.2 with ⟨e,_⟩|⟨g,cap,cur,e,hb,hgg,h1,h2,_⟩
 · injection e with e1 e2 e3;omega
 · injection e with e1 e2 e3;simp only [maxLen] at h2;omega
theorem aL.taken {w:World} {A:Option Addr} {n:Nat} {l:List Int} (h:aL w A n l) {i:Nat} (hi:i≤n):aL w A i (l.take i):=by
 refine ⟨by simp [h.1];omega,by have:=h.2.1;omega,fun hn=>?_⟩;obtain ⟨b,off,e,hb,hc⟩:=h.2.2 y2;exact ⟨b,off,e,hb,fun j hj=>by rw [hc j y2];simp [nth,List.getElem?_take,hj]⟩
theorem aL.droppedAt {w:World} {b n:Nat} {l:List Int} (h:aL w (some ⟨b,0,none⟩) n l) {i j:Nat} (hj:j<n-i):w.cell? ⟨b,i+j,none⟩=some (.int .i64 (nth (l.drop i) j)):=by
 obtain ⟨b',off,e,hb,hc⟩:=h.2.2 y2;injection e with e;injection e with e1 e2 e3;subst e1;subst e2;have:=hc (i+j) y2;rw [Nat.zero_add] at this;rw [this];simp [nth]
theorem DM {w:World} {ops:Array Oper} {rest:List Oper} {o:Oper} {a:Act} {Q:Exit→Act→World→Prop} (hgd:o.guard=none) (s x:Operand)
 (ho:o.op=.call {callee:=.builtin .append,args:=#[s,x],argTypes:=#[25,25]})
 (B:Nat) (v:Value) (l:List Int) (hs:a.eval s=v) (hown:aE w B v l) (g off m c:Nat) (l2:List Int) (hx:a.eval x=.slice (some ⟨g,off,none⟩) m c) (hm:l2.length=m) (hc:∀j,j<m→w.cell? ⟨g,off+j,none⟩=some (.int .i64 (nth l2 j)))
 (hlen:l.length+m≤1000000000) (hB:B≤w.heap.size)
 (h:∀v' w',aE w' B v' (l ++ l2)→w.grownBy w' v.ownBlock→Below B w w'→(v'.ownBlock=v.ownBlock∨v'.ownBlock=some w.heap.size)→wpList prog ops Q rest (a.put o.dst v') w'):wpList prog ops Q (o :: rest) a w:=by
 obtain ⟨i0,hi,hz,hz1,hz2⟩:=info_parts wY;refine wpList_plain hgd fun K hK=>?_
 obtain ⟨v',w',hrun,h2,h3,_,h5⟩:=run_append_own_at (P:=prog) w B 25 o.type 3 i0 (.int .i64 0) 1 8 underlying25 hi hz hz1 hz2 rfl y2 v l.length (l.map (Value.int .i64)) hown ⟨g,off,none⟩ m c (l2.map (Value.int .i64)) (by simp [hm])
  (by
   intro j u hu;simp only [List.getElem?_map,Option.map_eq_some_iff] at hu;obtain ⟨y,hy,rfl⟩:=hu;obtain ⟨hj,hy2⟩:=List.getElem?_eq_some_iff.1 hy;have:=hc j y2;rw [show nth l2 j=y by simp [nth,hy]] at this;simpa [Addr.add_lit] using this) (by intro u hu;simp only [List.mem_map] at hu;obtain ⟨y,_,rfl⟩:=hu;rfl) y59 y2 hB
 have hown':aE w' B v' (l ++ l2):=by unfold aE;simpa [hm] using h2
 have hbel:Below B w w':=⟨h3.os,h3.tape,h3.output,h3.size,fun k hk=>h3.block k y2 (fun e=>by have:=(hown.lt k e.symm).1;omega)⟩;unfold Oper.wp execOp;simp only [ho,resolve,invoke,builtin,Sem.run_bind,Sem.run_pure,Result.andThen_ok,List.map_toArray,List.map_cons,List.map_nil,hs,hx,hrun];exact hK _ _ (h v' w' hown' h3 hbel h5)
theorem C1 {l:List Int} {x:Int}:FH l x=true↔x∈l:=by
 have h:=iT (x:=x) (l:=l);unfold FH;rw [decide_eq_true_eq];constructor
 · intro h1;exact Classical.byContradiction fun h2=>by have:=h.2 h2;omega
 · intro h1;exact Classical.byContradiction fun h2=>(h.1 y2) h1
theorem Dc {l:List Int} {x:Int} (h:FH l x=true):cQ l x=true:=by unfold cQ;exact decide_eq_true (C1.1 h)
theorem IC {l:List Int} {x:Int} (h:FH l x=false) {i:Nat} (hi:i<l.length):nth l i≠x:=fun e=>by
 have:x∈l:=by rw [←e];simp [nth,hi]
 rw [C1.2 this] at h;cases h
def BO (l:List Int) (x:Int) (B:Nat) (v:Value) (w:World) (e:Ending) (w':World):Prop:=
 ∃v',e=.returned v'∧aE w' B v' (iQ l x)∧Below w w w'∧(v'.ownBlock=v.ownBlock∨∃g,v'.ownBlock=some g∧w.heap.size≤g)
theorem BO.new {l:List Int} {x:Int} {B:Nat} {v v3:Value} {w w3:World} {i:Nat} (hown:aE w3 w.heap.size v3 (l.take i ++ [x] ++ l.drop i)) (hB:B≤w.heap.size) (hr:mH l) (hi:i≤l.length) (h1:∀j,j<i→nth l j<x) (h2:i<l.length→x<nth l i) (hb:Below w w w3):BO l x B v w (.returned v3) w3:=by
 have hp:nH l x=i:=EE hi h1 (fun h=>by have:=h2 h;omega)
 have hm:¬cQ l x=true:=fun h=>by
  unfold cQ at h;obtain ⟨j,hj,e⟩:=Au.1 (of_decide_eq_true h);rcases Nat.lt_or_ge j i with g|g
  · have:=h1 j g;omega
  · have a:=h2 y2;rcases Nat.lt_or_ge i j with g2|g2
    · have:=hr.lt g2 hj;omega
    · obtain rfl:i=j:=by omega
      omega
 have e:iQ l x=l.take i ++ [x] ++ l.drop i:=by
  unfold iQ;rw [if_neg hm,hp];unfold bM;simp
 refine ⟨v3,rfl,by rw [e];exact hown.mono hB,hb,?_⟩;rcases hown.shape with ⟨_,e⟩|⟨g,c,rfl,hg⟩
 · simp at e
 · exact .inr ⟨g,rfl,hg⟩
theorem Fd (v:Value) (l:List Int) (x:Int) (B:Nat) (w:World) (hown:aE w B v l) (hr:mH l) (hlen:l.length≤100000) (hB:B≤w.heap.size) :
 Calls prog 91 #[v,x] w fun e w'=>BO l x B v w e w':=by
 have HR:=ħ hr;cases hh:FH l x
 case true=>
  obtain ⟨A,c,rfl,hint,_⟩:=hown.ints y2;have HI:=ħ hint;have HO:=ħ hown;have hd:decide (0≤inS l x)=true:=hh;have HH:=ħ hh;refine nm l.length fun n hn=>?_;rw [←hn] at HI ⊢;have HN:=ħ hn;clear hint hh hown hr hn;go_enter func91,ntmps91
  go_wp2_with fail
  refine (eT A n c l x _ HI.out).mono ?_;rintro e w' ⟨rfl,rfl⟩;go_wp2_with fail
  go_ret
  have hm:iQ l x=l:=by unfold iQ;rw [if_pos (Dc HH.out)]
  exact ⟨_,rfl,by rw [HN.out,hm];exact HO.out,Below.refl _ _,.inl rfl⟩
 case false=>
  have hd:decide (0≤inS l x)=false:=hh;have HH:=ħ hh;clear hh;rcases hown.shape with ⟨rfl,rfl⟩|⟨b,c,rfl,hbB⟩
  · clear hown hr;go_enter func91,ntmps91
    go_wp2_with fail
    refine (eT none 0 0 [] x _ (aL.nil _ _)).mono ?_;rintro e w' ⟨rfl,rfl⟩;go_wp2_with fail
    go_loop [5] (fun ix=>ix=.int .i64 0) (fun ix=>0)
    case atStart=>exact rfl
    case round=>
     subst hrel;go_wp2_with fail
     refine (bN none 0 0 [] _ (aL.nil _ _) y2).mono ?_;rintro e w1 ⟨v1,rfl,hown1,hb1⟩;have hsz1:=hb1.size
     go_wp2_with (first
      | (at_builtin;refine fJ rfl (.tmp 29) (.tmp 31) rfl w.heap.size v1 [] rfl (hown1.alloc _) _ x rfl (eH _ _ _) y17 (fE hsz1) ?_;intro v2 w2 hown2 hg2 hbel2 hat2;rcases hown2.shape with ⟨_,e2⟩|⟨g2,c2,rfl,hg3⟩;(exact absurd e2 y17);have hcap2:=hown2.cap)
      | (at_builtin;refine zO rfl (.tmp 33) (.tmp 36) rfl g2 _ c2 rfl hcap2.1 none _ rfl ?_))
     go_ret
     exact BO.new (i:=0) (by simpa using hown2) hB HR.out (Nat.le_refl _) (fun j hj=>by omega) (fun h=>absurd h y17) ((aB hb1).trans hbel2)
  · have hcap:=hown.cap
    have hint:aL w (some ⟨b,0,none⟩) l.length l:=by
     obtain ⟨A,c',e,hint,_⟩:=hown.ints y2;injection e with e1 e2 e3;rw [e1];exact hint
    have HI:=ħ hint;have HO:=ħ hown;refine nm l.length fun n hn=>?_;rw [←hn] at HI hcap hlen ⊢;have HN:=ħ hn;clear hint hown hr hn;go_enter func91,ntmps91
    go_wp2_with fail
    refine (eT _ n c l x _ HI.out).mono ?_;rintro e w' ⟨rfl,rfl⟩;go_wp2_with fail
    go_loop [5] (fun ix=>∃i:Nat,i≤n∧ix=.int .i64 i∧Hid (∀j,j<i→nth l j<x)) (fun ix=>n-(intOf ix).toNat)
    case atStart=>exact ⟨0,Nat.zero_le _,rfl,ħ (fun j hj=>by omega)⟩
    case round=>
     obtain ⟨i,hi,rfl,hlt⟩:=hrel;by_cases h1:i<n
     · obtain ⟨b',off',e',hb,hc⟩:=HI.out.2.2 y2;injection e' with e';injection e' with e1 e2 e3;subst e1;subst e2;have hci:=hc i h1;rw [Nat.zero_add] at hci;refine nm (nth l i) fun z hz=>?_;rw [←hz] at hci;have HZ:=ħ hz;clear hc hz;by_cases h2:z<x
       · have hnx:∀j,j<i+1→nth l j<x:=fun j hj=>by
          rcases Nat.lt_or_ge j i with h|h
          · exact hlt.out j h
          · have e:j=i:=by omega
            subst e;rw [←HZ.out];exact h2
         have HNX:=ħ hnx;clear hnx;go_wp2_with fail
         (refine rnd ?_;exact ⟨i+1,by omega,by go_num,HNX⟩)
       · have hne:=IC HH.out (i:=i) (by rw [←HN.out];exact h1);have hxz:x<nth l i:=by rw [←HZ.out] at hne ⊢;omega
         have HXZ:=ħ hxz;have hcne:¬c=i:=by omega
         clear hne hxz;go_wp2_with fail
         refine (bN _ i _ (l.take i) _ (HI.out.taken hi) y2).mono ?_;rintro e w1 ⟨v1,rfl,hown1,hb1⟩;have hsz1:=hb1.size;have htl:(l.take i).length=i:=by rw [List.length_take,← HN.out];omega
         have HTL:=ħ htl;clear htl
         go_wp2_with (first
          | (at_builtin;refine fJ rfl (.tmp 29) (.tmp 31) rfl w.heap.size v1 (l.take i) rfl (hown1.alloc _) _ x rfl (eH _ _ _) (by rw [HTL.out];omega) (fE hsz1) ?_;intro v2 w2 hown2 hg2 hbel2 hat2;have hbw2:Below w w w2:=(aB hb1).trans hbel2)
          | (at_builtin;refine DM rfl (.tmp 33) (.tmp 36) rfl w.heap.size v2 (l.take i ++ [x]) rfl hown2 b i (n-i) (c-i) (l.drop i) rfl (by rw [List.length_drop,← HN.out]) (fun j hj=>?_) (by rw [List.length_append,HTL.out];simp;omega) hbw2.size ?_;rotate_left;intro v3 w3 hown3 hg3 hbel3 hat3))
         · go_ret
           exact BO.new (i:=i) hown3 hB HR.out (by rw [←HN.out];exact hi) hlt.out (fun _=>HXZ.out) (hbw2.trans hbel3)
         · exact ((HI.out.up hbw2).droppedAt hj)
     · have hin:i=n:=by omega
       subst hin;have htl:(l.take i).length=i:=by rw [List.length_take,← HN.out];omega
       have HTL:=ħ htl;clear htl;by_cases hcn:c=i
       all_goals
        go_wp2_with fail
        refine (bN _ i _ (l.take i) _ (HI.out.taken hi) y2).mono ?_;rintro e w1 ⟨v1,rfl,hown1,hb1⟩;have hsz1:=hb1.size
        go_wp2_with (first
         | (at_builtin;refine fJ rfl (.tmp 29) (.tmp 31) rfl w.heap.size v1 (l.take i) rfl (hown1.alloc _) _ x rfl (eH _ _ _) (by rw [HTL.out];omega) (fE hsz1) ?_;intro v2 w2 hown2 hg2 hbel2 hat2;rcases hown2.shape with ⟨_,e2⟩|⟨g2,c2,e3,hg3⟩;(exact absurd e2 y17);(obtain ⟨n2,hn2⟩:∃n2,n2=(l.take i ++ [x]).length:=⟨_,rfl⟩);rw [←hn2] at e3;clear hn2;subst e3;have hcap2:=hown2.cap;have hbw2:Below w w w2:=(aB hb1).trans hbel2)
         | (at_builtin;refine zO rfl (.tmp 33) (.tmp 36) rfl g2 _ c2 rfl hcap2.1 _ _ rfl ?_))
        go_ret
        exact BO.new (i:=i) (by rw [List.drop_eq_nil_of_le (by rw [←HN.out];exact Nat.le_refl _),List.append_nil];exact hown2) hB HR.out (by rw [←HN.out];exact hi) hlt.out (fun h=>absurd h (by rw [←HN.out];omega)) hbw2
end Go.Proofs.YtgfakefcmbpboaaGreat
