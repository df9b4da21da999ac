/- Part 35 of what WorkerExact leans on. No conditions. -/
import Derived.Test.YtgfakefcmbpboaaGreatV22
namespace Go.Proofs.YtgfakefcmbpboaaGreat
set_option linter.all false
set_option maxRecDepth 100000
set_option maxHeartbeats 64000000
open _root_.Go.Proofs.Tryz Go.RowKit
open Tok
theorem IW {P:Program} {ops:Array Oper} {Q:Exit→Act→World→Prop} {a:Act} {w:World} {rest:List Oper} {o:Oper} (hg:Region.wanted o (yielded ops a.tmps)=true)
 (h:∀K:Act→World→Prop,(∀a w,wpList P ops Q rest a w→K a w)→o.wp P a w K Q):wpList P ops Q (o :: rest) a w:=
 wpList_step fun K hK=>by rw [if_pos hg];exact h K hK
def iW (ops:Array Oper):List Oper→Act→Option Act
 | [],a=>some a
 | o :: rest,a=>if Region.wanted o (yielded ops a.tmps)=true then
  (match o.op with
   | .move x=>iW ops rest (a.put o.dst (a.eval x))
   | .assign x=>iW ops rest (a.put o.dst (a.eval x))
   | .pick c x y=>(match a.eval c with
    | .bool b=>iW ops rest (a.put o.dst (if b=true then a.eval x else a.eval y))
    | _=>none)
   | _=>none)
  else iW ops rest (a.put o.dst undef)
theorem cE {P:Program} {ops:Array Oper} {Q:Exit→Act→World→Prop} {w:World}:∀(rest:List Oper) (a:Act),(iW ops rest a).isSome=true→(∀a',iW ops rest a=some a'→Q .normal a' w)→wpList P ops Q rest a w
 | [],a,_,h=>h a rfl
 | o :: rest,a,hs,h=>by
  refine wpList_step fun K hK=>?_;unfold iW at hs h;split
  · rename_i hg;rw [if_pos hg] at hs;simp only [if_pos hg] at h;unfold Oper.wp execOp;cases ho:o.op<;>simp only [ho] at hs h ⊢<;>try (simp at hs;done)
    · exact hK _ _ (cE rest _ hs h)
    · exact hK _ _ (cE rest _ hs h)
    · rename_i c x y;cases hc:a.eval c<;>simp only [hc] at hs h ⊢<;>try (simp at hs;done)
      rename_i b;have:=hK _ _ (cE rest _ hs h);simpa [asBool,Sem.run_pure,Oper.upon] using this
  · rename_i hg;rw [if_neg hg] at hs;simp only [if_neg hg] at h;exact hK _ _ (cE rest _ hs h)
theorem eR {ops:Array Oper} {rest:List Oper} {a a':Act} (h:iW ops rest a=some a') {s:Nat} {b:Bool} (hk:(iW ops rest a).map (fun a=>(a.tmps[s]?,a.defers.isEmpty))=some (some (.bool b),true)):a'.tmps[s]? =some (.bool b)∧a'.defers.isEmpty=true:=by
 rw [h] at hk;simpa using hk
theorem fT {w w':World} {b o:Nat} {cs:List Value} (h:w.rangeAt b o cs) (hb:Below w w w') (hlt:b<w.heap.size):w'.rangeAt b o cs:=fun j v hv=>(hb.cell (p:=⟨b,o+j,none⟩) hlt).trans (h j v hv)
def FI (H K:eG) (P Q:lM):Prop:=H.au=K.au∧H.ro=K.ro∧P.b.n=Q.b.n∧P.p.n=Q.p.n
def Jl (P Q:bQ) (M O:aY):Prop:=M.di=O.di∧M.b.au=O.b.au∧M.b.n=O.b.n∧P.b.n=Q.b.n∧FI M.h O.h P.h Q.h∧FI M.c.h O.c.h P.c.h Q.c.h∧M.c.di=O.c.di∧P.c.s.n=Q.c.s.n∧P.ds.n=Q.ds.n
theorem AW (P Q:bQ) (M O:aY) (n:Int) (yd y:Bool) (w:World) (hh:hdM M n)
 (hon:∀u,Below w w u→Calls prog 130 #[M18 P M,n] u fun e w'=>e=.returned (.tuple #[M18 Q O,.bool yd])∧Below u u w') (hy:y=true↔yd=true∧Jl P Q M O) :
 Calls prog 94 #[M18 P M,n] w fun e w'=>e=.returned (.bool y)∧Below w w w':=by
 obtain ⟨⟨bA,bn,bc⟩,⟨⟨xA,xn,xc⟩,⟨yA,yn,yc⟩⟩,⟨⟨⟨cA,cn,cd⟩,⟨dA,dn,dc⟩⟩,⟨sA,sn,sc⟩⟩,⟨eA,en,ec⟩⟩:=P;obtain ⟨⟨bA',bn',bc'⟩,⟨⟨xA',xn',xc'⟩,⟨yA',yn',yc'⟩⟩,⟨⟨⟨cA',cn',cd'⟩,⟨dA',dn',dc'⟩⟩,⟨sA',sn',sc'⟩⟩,⟨eA',en',ec'⟩⟩:=Q;obtain ⟨ki,fr,tt,di,⟨pa,pn,ptx⟩,⟨ha,hr,hba,hpa⟩,⟨⟨ca,cr,cba,cpa⟩,cdi,csi⟩,ds⟩:=M;obtain ⟨ki',fr',tt',di',⟨pa',pn',ptx'⟩,⟨ha',hr',hba',hpa'⟩,⟨⟨ca',cr',cba',cpa'⟩,cdi',csi'⟩,ds'⟩:=O;obtain ⟨q0,q1,q2,q3,q4,q5⟩:=hh;dsimp only at q1 q2 q3 q4 q5;have HS:=ħ q0;have b0:decide (fr<1)=false:=by simp;omega
 have b1:decide (n<fr)=false:=by simp;omega
 have b2:decide (tt<1)=false:=by simp;omega
 have b3:decide (n<tt)=false:=by simp;omega
 obtain ⟨y1,h1⟩:∃b,dec (ha=ha'∧hr=hr'∧xn=xn'∧yn=yn')=b:=⟨_,rfl⟩;obtain ⟨y2,h2⟩:∃b,dec (ca=ca'∧cr=cr'∧cn=cn'∧dn=dn')=b:=⟨_,rfl⟩;have HY:Hid (y=true↔yd=true∧di=di'∧pa=pa'∧pn=pn'∧bn=bn'∧y1=true∧y2=true∧cdi=cdi'∧sn=sn'∧en=en'):=ħ (by rw [hy,← h1,← h2,bJ,bJ];exact Iff.rfl);have HH1:=ħ (fun u=>xF ⟨ha,hr,[],[]⟩ ⟨ha',hr',[],[]⟩ xA yA xA' yA' xn xc yn yc xn' xc' yn' yc' y1 u h1);have HH2:=ħ (fun u=>xF ⟨ca,cr,[],[]⟩ ⟨ca',cr',[],[]⟩ cA dA cA' dA' cn cd dn dc cn' cd' dn' dc' y2 u h2);have HON:=ħ hon;clear hon hy q0 q1 q2 q3 q4 h1 h2;show Calls prog 94 #[.agg #[ki,fr,tt,di,pa,pn,.slice bA bn bc,ha,hr,.slice xA xn xc,.slice yA yn yc,ca,cr,.slice cA cn cd,.slice dA dn dc,cdi,.slice sA sn sc,.slice eA en ec],n] w fun e w'=>e=.returned (.bool y)∧Below w w w';go_enter func94,ntmps94
 go_upto_region 1 with fail
 refine aW (fun W hW=>?_);have HBM:Hid (Blk W w.heap.size 49 [ki,fr,tt,di,pa,pn,.slice bA bn bc,ha,hr,.slice xA xn xc,.slice yA yn yc,ca,cr,.slice cA cn cd,.slice dA dn dc,cdi,.slice sA sn sc,.slice eA en ec]):=ħ (by rw [hW];exact Blk.new w 49 [ki,fr,tt,di,pa,pn,.slice bA bn bc,ha,hr,.slice xA xn xc,.slice yA yn yc,ca,cr,.slice cA cn cd,.slice dA dn dc,cdi,.slice sA sn sc,.slice eA en ec]);have hb0:Below w w W:=by rw [hW];exact aB (Below.refl _ _)
 clear hW;have hsz:w.heap.size<W.heap.size:=HBM.out.lt;have m1:W.cell? ⟨w,1,none⟩=some (.int .i64 fr):=HBM.out.box.2 1 _ rfl;have m2:W.cell? ⟨w,2,none⟩=some (.int .i64 tt):=HBM.out.box.2 2 _ rfl;go_upto_region 3 with (go_at_call 71;(with_reducible refine (fK n _ _ HS.out).mono ?_);rintro e w' ⟨rfl,rfl⟩)
 clear m1 m2 b0 b1 b2 b3;refine wp_region_list ?_;simp only [List.toList_toArray];refine lm HBM.out.rng underlying49 ?_;go_wp2_with fail
 refine (HON.out _ (aI)).mono ?_;rintro e w1 ⟨rfl,hb1⟩;dsimp only;rename_i K hK;refine hK _ _ ?_;clear hK K;refine sp ?_
 iterate 4 (refine pl ?_)
 have hB1:=HBM.out.up hb1;have hlt1:w.heap.size<w1.heap.size:=hB1.lt;have hrm:=World.rangeAt_setCells_apart (hB1.up (aB (o:=.cells ([.int .i64 0,.int .i64 0,.int .i64 0,.int .i64 0,.int .i64 0,.int .i64 0,.slice none 0 0,.int .i64 0,.int .i64 0,.slice none 0 0,.slice none 0 0,.int .i64 0,.int .i64 0,.slice none 0 0,.slice none 0 0,.int .i64 0,.slice none 0 0,.slice none 0 0]).toArray 49) (Below.refl _ _))).rng w1.heap.size 0 [ki',fr',tt',di',pa',pn',.slice bA' bn' bc',ha',hr',.slice xA' xn' xc',.slice yA' yn' yc',ca',cr',.slice cA' cn' cd',.slice dA' dn' dc',cdi',.slice sA' sn' sc',.slice eA' en' ec'] (Or.inl (by omega));have hrx:=World.rangeAt_setCells_same (w1.alloc (.cells ([.int .i64 0,.int .i64 0,.int .i64 0,.int .i64 0,.int .i64 0,.int .i64 0,.slice none 0 0,.int .i64 0,.int .i64 0,.slice none 0 0,.slice none 0 0,.int .i64 0,.int .i64 0,.slice none 0 0,.slice none 0 0,.int .i64 0,.slice none 0 0,.slice none 0 0]).toArray 49)) w1.heap.size 0 [ki',fr',tt',di',pa',pn',.slice bA' bn' bc',ha',hr',.slice xA' xn' xc',.slice yA' yn' yc',ca',cr',.slice cA' cn' cd',.slice dA' dn' dc',cdi',.slice sA' sn' sc',.slice eA' en' ec'] (Blk.new w1 49 c18).thr;have hbv:Below w w ((w1.alloc (.cells ([.int .i64 0,.int .i64 0,.int .i64 0,.int .i64 0,.int .i64 0,.int .i64 0,.slice none 0 0,.int .i64 0,.int .i64 0,.slice none 0 0,.slice none 0 0,.int .i64 0,.int .i64 0,.slice none 0 0,.slice none 0 0,.int .i64 0,.slice none 0 0,.slice none 0 0]).toArray 49)).setCells w1.heap.size 0 [ki',fr',tt',di',pa',pn',.slice bA' bn' bc',ha',hr',.slice xA' xn' xc',.slice yA' yn' yc',ca',cr',.slice cA' cn' cd',.slice dA' dn' dc',cdi',.slice sA' sn' sc',.slice eA' en' ec']):=dI (by omega) _ _ _ (aB (aA hb0 hb1));refine wpList_store_mid rfl 49 _ _ rfl w1.heap.size 0 ([.int .i64 ki',.int .i64 fr',.int .i64 tt',.int .i64 di',.int .i64 pa',.int .i64 pn',.slice bA' bn' bc',.int .i64 ha',.int .i64 hr',.slice xA' xn' xc',.slice yA' yn' yc',.int .i64 ca',.int .i64 cr',.slice cA' cn' cd',.slice dA' dn' dc',.int .i64 cdi',.slice sA' sn' sc',.slice eA' en' ec']).toArray y9 (by simp [Act.eval,Act.put,M18]) (Blk.new w1 49 c18).thr y8 (all_oneCell_toArray y16) ?_;refine sp ?_;refine pl ?_
 try simp only [List.toList_toArray]
 refine aW (fun V hV=>?_);rw [←hV] at hrm hrx hbv;clear hV hB1;refine nm w1.heap.size fun N hN=>?_;rw [←hN] at hrx hlt1 ⊢;have hNV:N<V.heap.size:=World.block_lt_of_cell? _ _ (hrx 0 _ rfl);have hsv:w.heap.size<V.heap.size:=by omega
 clear hN hb1 HBM hsz hb0;clear HON;go_upto_region 4 with fail
 rename_i K4 hK4;have HK4:=ħ hK4;clear hK4;refine wp_region_list ?_;simp only [List.append_eq,List.append,List.cons_append,List.nil_append,List.toList_toArray];have HVM:Hid (V.rangeAt w.heap.size 0 [ki,fr,tt,di,pa,pn,.slice bA bn bc,ha,hr,.slice xA xn xc,.slice yA yn yc,ca,cr,.slice cA cn cd,.slice dA dn dc,cdi,.slice sA sn sc,.slice eA en ec]):=ħ hrm;have HVX:Hid (V.rangeAt N 0 [ki',fr',tt',di',pa',pn',.slice bA' bn' bc',ha',hr',.slice xA' xn' xc',.slice yA' yn' yc',ca',cr',.slice cA' cn' cd',.slice dA' dn' dc',cdi',.slice sA' sn' sc',.slice eA' en' ec']):=ħ hrx;have hb0:=hbv;clear hrm hrx hbv;refine pl ?_;cases yd
 · have hy0:y=false:=by
    cases y with
    | false=>rfl
    | true=>exact absurd (HY.out.1 rfl) y17
   subst hy0;clear HY;refine cE _ _ y8 (fun a' ha=>?_);obtain ⟨h4,h5⟩:=eR ha (s:=4) (b:=false) y8;clear ha;obtain ⟨tm,df⟩:=a';obtain rfl:df=[]:=by simpa using h5
   show K4 _ _;apply HK4.out;clear HK4;go_wp2_with fail
   exact bodyPost_ret (v:=.bool false) y21 rfl ⟨rfl,by first|exact hb0|exact aA hb0 ‹_›⟩
 by_cases h0:di=di'
 rotate_left
 · have hy0:y=false:=by
    cases y with
    | false=>rfl
    | true=>exact absurd (HY.out.1 rfl) (by simp [h0])
   subst hy0;clear HY;have d0:(di == di')=false:=by rw [beq_eq_false_iff_ne];assumption
   iterate 2 (first|refine pl ?_|refine pg ?_)
   refine tg fun K hK=>?_;have r3:=HVM.out 3 _ rfl;simp only [Nat.zero_add] at r3;go_simp;refine hK _ _ ?_;clear hK K;clear r3;refine sp ?_;refine pg ?_;refine tg fun K hK=>?_;have r3:=HVX.out 3 _ rfl;simp only [Nat.zero_add] at r3;go_simp;refine hK _ _ ?_;clear hK K;clear r3;refine sp ?_
   iterate 2 (first|refine pl ?_|refine pg ?_)
   refine cE _ _ y8 (fun a' ha=>?_);obtain ⟨h4,h5⟩:=eR ha (s:=4) (b:=false) y8;clear ha;obtain ⟨tm,df⟩:=a';obtain rfl:df=[]:=by simpa using h5
   show K4 _ _;apply HK4.out;clear HK4;go_wp2_with fail
   exact bodyPost_ret (v:=.bool false) y21 rfl ⟨rfl,by first|exact hb0|exact aA hb0 ‹_›⟩
 subst h0
 iterate 2 (first|refine pl ?_|refine pg ?_)
 refine tg fun K hK=>?_;have r3:=HVM.out 3 _ rfl;simp only [Nat.zero_add] at r3;go_simp;refine hK _ _ ?_;clear hK K;clear r3;refine sp ?_;refine pg ?_;refine tg fun K hK=>?_;have r3:=HVX.out 3 _ rfl;simp only [Nat.zero_add] at r3;go_simp;refine hK _ _ ?_;clear hK K;clear r3;refine sp ?_
 iterate 2 (first|refine pl ?_|refine pg ?_)
 by_cases h1:pa=pa'
 rotate_left
 · have hy0:y=false:=by
    cases y with
    | false=>rfl
    | true=>exact absurd (HY.out.1 rfl) (by simp [h1])
   subst hy0;clear HY;have d1:(pa == pa')=false:=by rw [beq_eq_false_iff_ne];assumption
   iterate 3 (first|refine pl ?_|refine pg ?_)
   refine tg fun K hK=>?_;have r4:=HVM.out 4 _ rfl;simp only [Nat.zero_add] at r4;go_simp;refine hK _ _ ?_;clear hK K;clear r4;refine sp ?_
   iterate 2 (refine pg ?_)
   refine tg fun K hK=>?_;have r4:=HVX.out 4 _ rfl;simp only [Nat.zero_add] at r4;go_simp;refine hK _ _ ?_;clear hK K;clear r4;refine sp ?_
   iterate 2 (first|refine pl ?_|refine pg ?_)
   refine cE _ _ y8 (fun a' ha=>?_);obtain ⟨h4,h5⟩:=eR ha (s:=4) (b:=false) y8;clear ha;obtain ⟨tm,df⟩:=a';obtain rfl:df=[]:=by simpa using h5
   show K4 _ _;apply HK4.out;clear HK4;go_wp2_with fail
   exact bodyPost_ret (v:=.bool false) y21 rfl ⟨rfl,by first|exact hb0|exact aA hb0 ‹_›⟩
 subst h1
 iterate 3 (first|refine pl ?_|refine pg ?_)
 refine tg fun K hK=>?_;have r4:=HVM.out 4 _ rfl;simp only [Nat.zero_add] at r4;go_simp;refine hK _ _ ?_;clear hK K;clear r4;refine sp ?_
 iterate 2 (refine pg ?_)
 refine tg fun K hK=>?_;have r4:=HVX.out 4 _ rfl;simp only [Nat.zero_add] at r4;go_simp;refine hK _ _ ?_;clear hK K;clear r4;refine sp ?_
 iterate 2 (first|refine pl ?_|refine pg ?_)
 by_cases h2:pn=pn'
 rotate_left
 · have hy0:y=false:=by
    cases y with
    | false=>rfl
    | true=>exact absurd (HY.out.1 rfl) (by simp [h2])
   subst hy0;clear HY;have d2:(pn == pn')=false:=by rw [beq_eq_false_iff_ne];assumption
   iterate 3 (first|refine pl ?_|refine pg ?_)
   refine tg fun K hK=>?_;have r5:=HVM.out 5 _ rfl;simp only [Nat.zero_add] at r5;go_simp;refine hK _ _ ?_;clear hK K;clear r5;refine sp ?_
   iterate 2 (refine pg ?_)
   refine tg fun K hK=>?_;have r5:=HVX.out 5 _ rfl;simp only [Nat.zero_add] at r5;go_simp;refine hK _ _ ?_;clear hK K;clear r5;refine sp ?_
   iterate 2 (first|refine pl ?_|refine pg ?_)
   refine cE _ _ y8 (fun a' ha=>?_);obtain ⟨h4,h5⟩:=eR ha (s:=4) (b:=false) y8;clear ha;obtain ⟨tm,df⟩:=a';obtain rfl:df=[]:=by simpa using h5
   show K4 _ _;apply HK4.out;clear HK4;go_wp2_with fail
   exact bodyPost_ret (v:=.bool false) y21 rfl ⟨rfl,by first|exact hb0|exact aA hb0 ‹_›⟩
 subst h2
 iterate 3 (first|refine pl ?_|refine pg ?_)
 refine tg fun K hK=>?_;have r5:=HVM.out 5 _ rfl;simp only [Nat.zero_add] at r5;go_simp;refine hK _ _ ?_;clear hK K;clear r5;refine sp ?_
 iterate 2 (refine pg ?_)
 refine tg fun K hK=>?_;have r5:=HVX.out 5 _ rfl;simp only [Nat.zero_add] at r5;go_simp;refine hK _ _ ?_;clear hK K;clear r5;refine sp ?_
 iterate 2 (first|refine pl ?_|refine pg ?_)
 by_cases h3:bn=bn'
 rotate_left
 · have hy0:y=false:=by
    cases y with
    | false=>rfl
    | true=>exact absurd (HY.out.1 rfl) (by simp [h3])
   subst hy0;clear HY;have d3:((bn:Int) == (bn':Int))=false:=by rw [beq_eq_false_iff_ne];omega
   iterate 3 (first|refine pl ?_|refine pg ?_)
   refine tg fun K hK=>?_;have r6:=HVM.out 6 _ rfl;simp only [Nat.zero_add] at r6;go_simp;refine hK _ _ ?_;clear hK K;clear r6;refine sp ?_
   iterate 3 (refine pg ?_)
   refine tg fun K hK=>?_;have r6:=HVX.out 6 _ rfl;simp only [Nat.zero_add] at r6;go_simp;refine hK _ _ ?_;clear hK K;clear r6;refine sp ?_
   iterate 3 (first|refine pl ?_|refine pg ?_)
   refine cE _ _ y8 (fun a' ha=>?_);obtain ⟨h4,h5⟩:=eR ha (s:=4) (b:=false) y8;clear ha;obtain ⟨tm,df⟩:=a';obtain rfl:df=[]:=by simpa using h5
   show K4 _ _;apply HK4.out;clear HK4;go_wp2_with fail
   exact bodyPost_ret (v:=.bool false) y21 rfl ⟨rfl,by first|exact hb0|exact aA hb0 ‹_›⟩
 subst h3
 iterate 3 (first|refine pl ?_|refine pg ?_)
 refine tg fun K hK=>?_;have r6:=HVM.out 6 _ rfl;simp only [Nat.zero_add] at r6;go_simp;refine hK _ _ ?_;clear hK K;clear r6;refine sp ?_
 iterate 3 (refine pg ?_)
 refine tg fun K hK=>?_;have r6:=HVX.out 6 _ rfl;simp only [Nat.zero_add] at r6;go_simp;refine hK _ _ ?_;clear hK K;clear r6;refine sp ?_
 iterate 3 (first|refine pl ?_|refine pg ?_)
 cases y1
 · have hy0:y=false:=by
    cases y with
    | false=>rfl
    | true=>exact absurd (HY.out.1 rfl) y17
   subst hy0;clear HY
   iterate 2 (first|refine pl ?_|refine pg ?_)
   refine tg fun K hK=>?_;have r7:=HVM.out 7 _ rfl;have r8:=HVM.out 8 _ rfl;have r9:=HVM.out 9 _ rfl;have r10:=HVM.out 10 _ rfl;simp only [Nat.zero_add] at r7 r8 r9 r10;go_simp;refine hK _ _ ?_;clear hK K;clear r7 r8 r9 r10;refine sp ?_;refine pg ?_;refine tg fun K hK=>?_;have r7:=HVX.out 7 _ rfl;have r8:=HVX.out 8 _ rfl;have r9:=HVX.out 9 _ rfl;have r10:=HVX.out 10 _ rfl;simp only [Nat.zero_add] at r7 r8 r9 r10;go_simp;refine hK _ _ ?_;clear hK K;clear r7 r8 r9 r10;refine sp ?_;refine tg fun K hK=>?_;go_simp;refine (HH1.out _).mono ?_;rintro e w81 ⟨rfl,hb81⟩;dsimp only;refine hK _ _ ?_;clear hK K;refine sp ?_;have HVM:=ħ (fT HVM.out hb81 hsv);have HVX:=ħ (fT HVX.out hb81 hNV);have hb0:=aA hb0 hb81;have hsv:=Nat.lt_of_lt_of_le hsv hb81.size;have hNV:=Nat.lt_of_lt_of_le hNV hb81.size;clear hb81;refine pl ?_;refine cE _ _ y8 (fun a' ha=>?_);obtain ⟨h4,h5⟩:=eR ha (s:=4) (b:=false) y8;clear ha;obtain ⟨tm,df⟩:=a';obtain rfl:df=[]:=by simpa using h5
   show K4 _ _;apply HK4.out;clear HK4;go_wp2_with fail
   exact bodyPost_ret (v:=.bool false) y21 rfl ⟨rfl,by first|exact hb0|exact aA hb0 ‹_›⟩
 iterate 2 (first|refine pl ?_|refine pg ?_)
 refine tg fun K hK=>?_;have r7:=HVM.out 7 _ rfl;have r8:=HVM.out 8 _ rfl;have r9:=HVM.out 9 _ rfl;have r10:=HVM.out 10 _ rfl;simp only [Nat.zero_add] at r7 r8 r9 r10;go_simp;refine hK _ _ ?_;clear hK K;clear r7 r8 r9 r10;refine sp ?_;refine pg ?_;refine tg fun K hK=>?_;have r7:=HVX.out 7 _ rfl;have r8:=HVX.out 8 _ rfl;have r9:=HVX.out 9 _ rfl;have r10:=HVX.out 10 _ rfl;simp only [Nat.zero_add] at r7 r8 r9 r10;go_simp;refine hK _ _ ?_;clear hK K;clear r7 r8 r9 r10;refine sp ?_;refine tg fun K hK=>?_;go_simp;refine (HH1.out _).mono ?_;rintro e w81 ⟨rfl,hb81⟩;dsimp only;refine hK _ _ ?_;clear hK K;refine sp ?_;have HVM:=ħ (fT HVM.out hb81 hsv);have HVX:=ħ (fT HVX.out hb81 hNV);have hb0:=aA hb0 hb81;have hsv:=Nat.lt_of_lt_of_le hsv hb81.size;have hNV:=Nat.lt_of_lt_of_le hNV hb81.size;clear hb81;refine pl ?_;cases y2
 · have hy0:y=false:=by
    cases y with
    | false=>rfl
    | true=>exact absurd (HY.out.1 rfl) y17
   subst hy0;clear HY
   iterate 3 (first|refine pl ?_|refine pg ?_)
   refine tg fun K hK=>?_;have r11:=HVM.out 11 _ rfl;have r12:=HVM.out 12 _ rfl;have r13:=HVM.out 13 _ rfl;have r14:=HVM.out 14 _ rfl;simp only [Nat.zero_add] at r11 r12 r13 r14;go_simp;refine hK _ _ ?_;clear hK K;clear r11 r12 r13 r14;refine sp ?_
   iterate 2 (refine pg ?_)
   refine tg fun K hK=>?_;have r11:=HVX.out 11 _ rfl;have r12:=HVX.out 12 _ rfl;have r13:=HVX.out 13 _ rfl;have r14:=HVX.out 14 _ rfl;simp only [Nat.zero_add] at r11 r12 r13 r14;go_simp;refine hK _ _ ?_;clear hK K;clear r11 r12 r13 r14;refine sp ?_;refine tg fun K hK=>?_;go_simp;refine (HH2.out _).mono ?_;rintro e w82 ⟨rfl,hb82⟩;dsimp only;refine hK _ _ ?_;clear hK K;refine sp ?_;have HVM:=ħ (fT HVM.out hb82 hsv);have HVX:=ħ (fT HVX.out hb82 hNV);have hb0:=aA hb0 hb82;have hsv:=Nat.lt_of_lt_of_le hsv hb82.size;have hNV:=Nat.lt_of_lt_of_le hNV hb82.size;clear hb82;refine pl ?_;refine cE _ _ y8 (fun a' ha=>?_);obtain ⟨h4,h5⟩:=eR ha (s:=4) (b:=false) y8;clear ha;obtain ⟨tm,df⟩:=a';obtain rfl:df=[]:=by simpa using h5
   show K4 _ _;apply HK4.out;clear HK4;go_wp2_with fail
   exact bodyPost_ret (v:=.bool false) y21 rfl ⟨rfl,by first|exact hb0|exact aA hb0 ‹_›⟩
 iterate 3 (first|refine pl ?_|refine pg ?_)
 refine tg fun K hK=>?_;have r11:=HVM.out 11 _ rfl;have r12:=HVM.out 12 _ rfl;have r13:=HVM.out 13 _ rfl;have r14:=HVM.out 14 _ rfl;simp only [Nat.zero_add] at r11 r12 r13 r14;go_simp;refine hK _ _ ?_;clear hK K;clear r11 r12 r13 r14;refine sp ?_
 iterate 2 (refine pg ?_)
 refine tg fun K hK=>?_;have r11:=HVX.out 11 _ rfl;have r12:=HVX.out 12 _ rfl;have r13:=HVX.out 13 _ rfl;have r14:=HVX.out 14 _ rfl;simp only [Nat.zero_add] at r11 r12 r13 r14;go_simp;refine hK _ _ ?_;clear hK K;clear r11 r12 r13 r14;refine sp ?_;refine tg fun K hK=>?_;go_simp;refine (HH2.out _).mono ?_;rintro e w82 ⟨rfl,hb82⟩;dsimp only;refine hK _ _ ?_;clear hK K;refine sp ?_;have HVM:=ħ (fT HVM.out hb82 hsv);have HVX:=ħ (fT HVX.out hb82 hNV);have hb0:=aA hb0 hb82;have hsv:=Nat.lt_of_lt_of_le hsv hb82.size;have hNV:=Nat.lt_of_lt_of_le hNV hb82.size;clear hb82;refine pl ?_;by_cases h6:cdi=cdi'
 rotate_left
 · have hy0:y=false:=by
    cases y with
    | false=>rfl
    | true=>exact absurd (HY.out.1 rfl) (by simp [h6])
   subst hy0;clear HY;have d6:(cdi == cdi')=false:=by rw [beq_eq_false_iff_ne];assumption
   iterate 3 (first|refine pl ?_|refine pg ?_)
   refine tg fun K hK=>?_;have r15:=HVM.out 15 _ rfl;simp only [Nat.zero_add] at r15;go_simp;refine hK _ _ ?_;clear hK K;clear r15;refine sp ?_
   iterate 2 (refine pg ?_)
   refine tg fun K hK=>?_;have r15:=HVX.out 15 _ rfl;simp only [Nat.zero_add] at r15;go_simp;refine hK _ _ ?_;clear hK K;clear r15;refine sp ?_
   iterate 2 (first|refine pl ?_|refine pg ?_)
   refine cE _ _ y8 (fun a' ha=>?_);obtain ⟨h4,h5⟩:=eR ha (s:=4) (b:=false) y8;clear ha;obtain ⟨tm,df⟩:=a';obtain rfl:df=[]:=by simpa using h5
   show K4 _ _;apply HK4.out;clear HK4;go_wp2_with fail
   exact bodyPost_ret (v:=.bool false) y21 rfl ⟨rfl,by first|exact hb0|exact aA hb0 ‹_›⟩
 subst h6
 iterate 3 (first|refine pl ?_|refine pg ?_)
 refine tg fun K hK=>?_;have r15:=HVM.out 15 _ rfl;simp only [Nat.zero_add] at r15;go_simp;refine hK _ _ ?_;clear hK K;clear r15;refine sp ?_
 iterate 2 (refine pg ?_)
 refine tg fun K hK=>?_;have r15:=HVX.out 15 _ rfl;simp only [Nat.zero_add] at r15;go_simp;refine hK _ _ ?_;clear hK K;clear r15;refine sp ?_
 iterate 2 (first|refine pl ?_|refine pg ?_)
 by_cases h7:sn=sn'
 rotate_left
 · have hy0:y=false:=by
    cases y with
    | false=>rfl
    | true=>exact absurd (HY.out.1 rfl) (by simp [h7])
   subst hy0;clear HY;have d7:((sn:Int) == (sn':Int))=false:=by rw [beq_eq_false_iff_ne];omega
   iterate 3 (first|refine pl ?_|refine pg ?_)
   refine tg fun K hK=>?_;have r16:=HVM.out 16 _ rfl;simp only [Nat.zero_add] at r16;go_simp;refine hK _ _ ?_;clear hK K;clear r16;refine sp ?_
   iterate 3 (refine pg ?_)
   refine tg fun K hK=>?_;have r16:=HVX.out 16 _ rfl;simp only [Nat.zero_add] at r16;go_simp;refine hK _ _ ?_;clear hK K;clear r16;refine sp ?_
   iterate 3 (first|refine pl ?_|refine pg ?_)
   refine cE _ _ y8 (fun a' ha=>?_);obtain ⟨h4,h5⟩:=eR ha (s:=4) (b:=false) y8;clear ha;obtain ⟨tm,df⟩:=a';obtain rfl:df=[]:=by simpa using h5
   show K4 _ _;apply HK4.out;clear HK4;go_wp2_with fail
   exact bodyPost_ret (v:=.bool false) y21 rfl ⟨rfl,by first|exact hb0|exact aA hb0 ‹_›⟩
 subst h7
 iterate 3 (first|refine pl ?_|refine pg ?_)
 refine tg fun K hK=>?_;have r16:=HVM.out 16 _ rfl;simp only [Nat.zero_add] at r16;go_simp;refine hK _ _ ?_;clear hK K;clear r16;refine sp ?_
 iterate 3 (refine pg ?_)
 refine tg fun K hK=>?_;have r16:=HVX.out 16 _ rfl;simp only [Nat.zero_add] at r16;go_simp;refine hK _ _ ?_;clear hK K;clear r16;refine sp ?_
 iterate 3 (first|refine pl ?_|refine pg ?_)
 by_cases h8:en=en'
 rotate_left
 · have hy0:y=false:=by
    cases y with
    | false=>rfl
    | true=>exact absurd (HY.out.1 rfl) (by simp [h8])
   subst hy0;clear HY;have d8:((en:Int) == (en':Int))=false:=by rw [beq_eq_false_iff_ne];omega
   iterate 2 (first|refine pl ?_|refine pg ?_)
   refine tg fun K hK=>?_;have r17:=HVM.out 17 _ rfl;simp only [Nat.zero_add] at r17;go_simp;refine hK _ _ ?_;clear hK K;clear r17;refine sp ?_
   iterate 2 (refine pg ?_)
   refine tg fun K hK=>?_;have r17:=HVX.out 17 _ rfl;simp only [Nat.zero_add] at r17;go_simp;refine hK _ _ ?_;clear hK K;clear r17;refine sp ?_
   iterate 3 (first|refine pl ?_|refine pg ?_)
   refine cE _ _ y8 (fun a' ha=>?_);obtain ⟨h4,h5⟩:=eR ha (s:=4) (b:=false) y8;clear ha;obtain ⟨tm,df⟩:=a';obtain rfl:df=[]:=by simpa using h5
   show K4 _ _;apply HK4.out;clear HK4;go_wp2_with fail
   exact bodyPost_ret (v:=.bool false) y21 rfl ⟨rfl,by first|exact hb0|exact aA hb0 ‹_›⟩
 subst h8
 iterate 2 (first|refine pl ?_|refine pg ?_)
 refine tg fun K hK=>?_;have r17:=HVM.out 17 _ rfl;simp only [Nat.zero_add] at r17;go_simp;refine hK _ _ ?_;clear hK K;clear r17;refine sp ?_
 iterate 2 (refine pg ?_)
 refine tg fun K hK=>?_;have r17:=HVX.out 17 _ rfl;simp only [Nat.zero_add] at r17;go_simp;refine hK _ _ ?_;clear hK K;clear r17;refine sp ?_
 iterate 3 (first|refine pl ?_|refine pg ?_)
 have hy0:y=true:=HY.out.2 y17;subst hy0;clear HY;refine cE _ _ y8 (fun a' ha=>?_);obtain ⟨h4,h5⟩:=eR ha (s:=4) (b:=true) y8;clear ha;obtain ⟨tm,df⟩:=a';obtain rfl:df=[]:=by simpa using h5
 show K4 _ _;apply HK4.out;clear HK4;go_wp2_with fail
 exact bodyPost_ret (v:=.bool true) y21 rfl ⟨rfl,by first|exact hb0|exact aA hb0 ‹_›⟩
end Go.Proofs.YtgfakefcmbpboaaGreat
