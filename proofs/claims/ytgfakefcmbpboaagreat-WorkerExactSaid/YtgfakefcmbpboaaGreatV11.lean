/- Part 11 of what WorkerExact leans on. No conditions. -/
import Derived.Test.YtgfakefcmbpboaaGreatV10
namespace Go.Proofs.YtgfakefcmbpboaaGreat
set_option linter.all false
set_option maxRecDepth 100000
set_option maxHeartbeats 64000000
open _root_.Go.Proofs.Tryz Go.RowKit
open Tok
noncomputable def Fq (l:List TxD):Bool:=dec (∀j,j<l.length→txS (xth l j)=true)
theorem sQ {l:List TxD}:Fq l=true↔∀j,j<l.length→txS (xth l j)=true:=bJ
def Iy (D:aD):Prop:=isS D.nodes=true∧1≤D.id∧D.id≤D.nodes∧AY D.next 1=true∧AY D.age 0=true∧AY D.clock 0=true∧D.op.length≤64∧D.he.length≤1024∧Fq D.op=true∧wtB D.wa D.nodes=true∧hdB D.he=true∧DA D.re=true
noncomputable def dZ (D:aD):Bool:=dec (Iy D)
theorem cX {D:aD}:dZ D=true↔Iy D:=bJ
theorem dK (P:aF) (D:aD) (y:Bool) (w:World) (h:bG w P D) (hy:dZ D=y):Calls prog 39 #[P.val D] w fun e w'=>e=.returned (.bool y)∧Below w w w':=by
 have HO:Hid (bZ w P.op.A P.op.n D.op):=ħ h.op;have HT:Hid (eC w P.wa.A P.wa.n D.wa):=ħ h.wa;have HE:Hid (dU w P.he.A P.he.n D.he):=ħ h.he;have HR:Hid (aL w P.re.A P.re.n D.re):=ħ h.re;have hon:P.op.n≤9223372036854775807:=h.op.2.2.1;have hen:P.he.n≤9223372036854775807:=h.he.2.1;refine mn (isS D.nodes) fun ys hs=>?_;refine mn (AY D.next 1) fun y4 h4=>?_;refine mn (AY D.age 0) fun y5 h5=>?_;refine mn (AY D.clock 0) fun y6 h6=>?_;refine mn (Fq D.op) fun yt ht=>?_;refine mn (wtB D.wa D.nodes) fun yw hw=>?_;refine mn (hdB D.he) fun yh hh=>?_;refine mn (DA D.re) fun yu hu=>?_;refine mn D.nodes fun nodes hnd=>?_;refine mn D.id fun id hid=>?_;refine mn D.next fun next hnx=>?_;refine mn D.age fun age hag=>?_;refine mn D.clock fun clock hck=>?_
 have hY:y=true↔(ys=true∧1≤id∧id≤nodes∧y4=true∧y5=true∧y6=true∧P.op.n≤64∧P.he.n≤1024∧yt=true∧yw=true∧yh=true∧yu=true):=by
  rw [←hy,cX];unfold Iy;rw [hs,h4,h5,h6,ht,hw,hh,hu,hid,hnd,HO.out.1,HE.out.1]
 have HY:=ħ hY;rw [hnd] at hs hw;rw [hnx] at h4;rw [hag] at h5;rw [hck] at h6;have HS:=ħ hs;have H4:=ħ h4;have H5:=ħ h5;have H6:=ħ h6;have HTX:=ħ ht;have HWT:=ħ hw;have HHD:=ħ hh;have HSN:=ħ hu;show Calls prog 39 #[.agg (cW D P)] w _;rw [hid,hnd,hnx,hag,hck];clear h hy hs h4 h5 h6 ht hw hh hu hY hnd hid hnx hag hck;go_enter func39,ntmps39
 cases ys
 case false=>
  go_wp2_with (first|(go_at_call 71;(with_reducible refine (fK nodes _ _ HS.out).mono ?_);rintro e w' ⟨rfl,rfl⟩)|(go_at_call 72;(with_reducible refine (aT next 1 _ _ H4.out).mono ?_);rintro e w' ⟨rfl,rfl⟩)|(go_at_call 72;(with_reducible refine (aT age 0 _ _ H5.out).mono ?_);rintro e w' ⟨rfl,rfl⟩)|(go_at_call 72;(with_reducible refine (aT clock 0 _ _ H6.out).mono ?_);rintro e w' ⟨rfl,rfl⟩))
  go_ret
  exact ⟨aH (zX HY.out y7),aJ⟩
 case true=>
 by_cases q1:1≤id
 case neg=>
  have b1:decide (id<1)=true:=by simp;omega
  go_wp2_with (first|(go_at_call 71;(with_reducible refine (fK nodes _ _ HS.out).mono ?_);rintro e w' ⟨rfl,rfl⟩)|(go_at_call 72;(with_reducible refine (aT next 1 _ _ H4.out).mono ?_);rintro e w' ⟨rfl,rfl⟩)|(go_at_call 72;(with_reducible refine (aT age 0 _ _ H5.out).mono ?_);rintro e w' ⟨rfl,rfl⟩)|(go_at_call 72;(with_reducible refine (aT clock 0 _ _ H6.out).mono ?_);rintro e w' ⟨rfl,rfl⟩))
  go_ret
  exact ⟨aH (zX HY.out y7),aJ⟩
 case pos=>
 have b1:decide (id<1)=false:=by simp;omega
 by_cases q2:id≤nodes
 case neg=>
  have b2:decide (nodes<id)=true:=by simp;omega
  go_wp2_with (first|(go_at_call 71;(with_reducible refine (fK nodes _ _ HS.out).mono ?_);rintro e w' ⟨rfl,rfl⟩)|(go_at_call 72;(with_reducible refine (aT next 1 _ _ H4.out).mono ?_);rintro e w' ⟨rfl,rfl⟩)|(go_at_call 72;(with_reducible refine (aT age 0 _ _ H5.out).mono ?_);rintro e w' ⟨rfl,rfl⟩)|(go_at_call 72;(with_reducible refine (aT clock 0 _ _ H6.out).mono ?_);rintro e w' ⟨rfl,rfl⟩))
  go_ret
  exact ⟨aH (zX HY.out y7),aJ⟩
 case pos=>
 have b2:decide (nodes<id)=false:=by simp;omega
 cases y4
 case false=>
  go_wp2_with (first|(go_at_call 71;(with_reducible refine (fK nodes _ _ HS.out).mono ?_);rintro e w' ⟨rfl,rfl⟩)|(go_at_call 72;(with_reducible refine (aT next 1 _ _ H4.out).mono ?_);rintro e w' ⟨rfl,rfl⟩)|(go_at_call 72;(with_reducible refine (aT age 0 _ _ H5.out).mono ?_);rintro e w' ⟨rfl,rfl⟩)|(go_at_call 72;(with_reducible refine (aT clock 0 _ _ H6.out).mono ?_);rintro e w' ⟨rfl,rfl⟩))
  go_ret
  exact ⟨aH (zX HY.out y7),aJ⟩
 case true=>
 cases y5
 case false=>
  go_wp2_with (first|(go_at_call 71;(with_reducible refine (fK nodes _ _ HS.out).mono ?_);rintro e w' ⟨rfl,rfl⟩)|(go_at_call 72;(with_reducible refine (aT next 1 _ _ H4.out).mono ?_);rintro e w' ⟨rfl,rfl⟩)|(go_at_call 72;(with_reducible refine (aT age 0 _ _ H5.out).mono ?_);rintro e w' ⟨rfl,rfl⟩)|(go_at_call 72;(with_reducible refine (aT clock 0 _ _ H6.out).mono ?_);rintro e w' ⟨rfl,rfl⟩))
  go_ret
  exact ⟨aH (zX HY.out y7),aJ⟩
 case true=>
 cases y6
 case false=>
  go_wp2_with (first|(go_at_call 71;(with_reducible refine (fK nodes _ _ HS.out).mono ?_);rintro e w' ⟨rfl,rfl⟩)|(go_at_call 72;(with_reducible refine (aT next 1 _ _ H4.out).mono ?_);rintro e w' ⟨rfl,rfl⟩)|(go_at_call 72;(with_reducible refine (aT age 0 _ _ H5.out).mono ?_);rintro e w' ⟨rfl,rfl⟩)|(go_at_call 72;(with_reducible refine (aT clock 0 _ _ H6.out).mono ?_);rintro e w' ⟨rfl,rfl⟩))
  go_ret
  exact ⟨aH (zX HY.out y7),aJ⟩
 case true=>
 by_cases q6:P.op.n≤64
 case neg=>
  have b6:decide ((64:Int)<(P.op.n:Int))=true:=by simp;omega
  go_wp2_with (first|(go_at_call 71;(with_reducible refine (fK nodes _ _ HS.out).mono ?_);rintro e w' ⟨rfl,rfl⟩)|(go_at_call 72;(with_reducible refine (aT next 1 _ _ H4.out).mono ?_);rintro e w' ⟨rfl,rfl⟩)|(go_at_call 72;(with_reducible refine (aT age 0 _ _ H5.out).mono ?_);rintro e w' ⟨rfl,rfl⟩)|(go_at_call 72;(with_reducible refine (aT clock 0 _ _ H6.out).mono ?_);rintro e w' ⟨rfl,rfl⟩))
  go_ret
  exact ⟨aH (zX HY.out y7),aJ⟩
 case pos=>
 have b6:decide ((64:Int)<(P.op.n:Int))=false:=by simp;omega
 by_cases q7:P.he.n≤1024
 case neg=>
  have b7:decide ((1024:Int)<(P.he.n:Int))=true:=by simp;omega
  go_wp2_with (first|(go_at_call 71;(with_reducible refine (fK nodes _ _ HS.out).mono ?_);rintro e w' ⟨rfl,rfl⟩)|(go_at_call 72;(with_reducible refine (aT next 1 _ _ H4.out).mono ?_);rintro e w' ⟨rfl,rfl⟩)|(go_at_call 72;(with_reducible refine (aT age 0 _ _ H5.out).mono ?_);rintro e w' ⟨rfl,rfl⟩)|(go_at_call 72;(with_reducible refine (aT clock 0 _ _ H6.out).mono ?_);rintro e w' ⟨rfl,rfl⟩))
  go_ret
  exact ⟨aH (zX HY.out y7),aJ⟩
 case pos=>
 have b7:decide ((1024:Int)<(P.he.n:Int))=false:=by simp;omega
 go_wp2_with (first|(go_at_call 71;(with_reducible refine (fK nodes _ _ HS.out).mono ?_);rintro e w' ⟨rfl,rfl⟩)|(go_at_call 72;(with_reducible refine (aT next 1 _ _ H4.out).mono ?_);rintro e w' ⟨rfl,rfl⟩)|(go_at_call 72;(with_reducible refine (aT age 0 _ _ H5.out).mono ?_);rintro e w' ⟨rfl,rfl⟩)|(go_at_call 72;(with_reducible refine (aT clock 0 _ _ H6.out).mono ?_);rintro e w' ⟨rfl,rfl⟩))
 have hA:bX (w.alloc (.cells #[id,nodes,next,P.op,age,clock,P.wa,P.he,P.re] 27)) w.heap.size [id,nodes,next,P.op,age,clock,P.wa,P.he,P.re]:=bX.new w [id,nodes,next,P.op,age,clock,P.wa,P.he,P.re] 27;refine (rW P.op.A P.op.n P.op.c D.op _ (HO.out.up (aJ))).mono ?_;rintro e w1 ⟨z,rfl,hf,hb1⟩;have HA1:=ħ (hA.up hb1);have hg1:=HA1.out.1;have hbw1:Below w w w1:=aJ;obtain ⟨a_0,a_1,a_2,a_3,a_4,a_5,a_6,a_7,a_8⟩:=bx9 HA1.out;have HFX:=ħ hf;clear hf hA hb1;cases yt
 case false=>
  have hz:0≤z:=by
   rcases HFX.out with ⟨_,hall⟩|⟨k,hk,_⟩
   · have:=HTX.out;rw [sQ.2 (by rw [HO.out.1];exact hall)] at this;cases this
   · omega
  have hzd:decide (0≤z)=true:=by simpa using hz
  go_wp2_with fail
  go_ret
  exact ⟨aH (zX HY.out y7),hbw1⟩
 case true=>
 have hz:¬0≤z:=by
  rcases HFX.out with ⟨h1,_⟩|⟨k,hk,hkn,hkf⟩
  · omega
  · have:=sQ.1 HTX.out k (by rw [HO.out.1];exact hkn);rw [hkf] at this;cases this
 have hzd:decide (0≤z)=false:=by simpa using hz
 clear hz;have hall:yw=true→yh=true→yu=true→y=true:=fun e1 e2 e3=>HY.out.2 ⟨by trivial,by assumption,by assumption,by trivial,by trivial,by trivial,by assumption,by assumption,by trivial,e1,e2,e3⟩;have HALL:=ħ hall;clear hall;cases yw
 case' true=>
  cases yh
  case' true=>cases yu
 all_goals
  go_wp2_with (first|(go_at_call 76;refine (CJ P.wa.A P.wa.n P.wa.c D.wa nodes _ _ (HT.out.up (aJ)) HWT.out).mono ?_;rintro e w2 ⟨rfl,hb2⟩;have hB2:=HA1.out.up hb2;obtain ⟨d_0,d_1,d_2,d_3,d_4,d_5,d_6,d_7,d_8⟩:=bx9 hB2;have hg2:=hB2.1;clear hB2)|(go_at_call 77;refine (Bs P.he.A P.he.n P.he.c D.he _ _ (HE.out.up (aJ)) HHD.out).mono ?_;rintro e w3 ⟨rfl,hb3⟩;have hB3:=(HA1.out.up hb2).up hb3;obtain ⟨f_0,f_1,f_2,f_3,f_4,f_5,f_6,f_7,f_8⟩:=bx9 hB3;have hg3:=hB3.1;clear hB3)|(go_at_call 78;refine (BJ P.re.A P.re.n P.re.c D.re _ _ (HR.out.up (aJ)) HSN.out).mono ?_;rintro e w4 ⟨rfl,hb4⟩))
  go_ret
  first
   | exact ⟨aH (zX HY.out y7),aJ⟩
   | exact ⟨aH (HALL.out (by trivial) (by trivial) (by trivial)).symm,aJ⟩
def eK (l:List aV) (key:Int):Nat:=cnt (fun x=>ltI x.di key) l
noncomputable def eW (l:List aV) (key:Int):Bool:=dec (eK l key<l.length∧(wth l (eK l key)).di=key)
def gK (l:List aV):Prop:=∀i j,i<j→j<l.length→ltI (wth l i).di (wth l j).di=true
theorem D0 (a:aV) (Bq:Option Addr) (mq dq:Nat) (key:Int) (w:World):Calls prog 145 #[.agg #[a.di,.slice Bq mq dq],key] w fun e w'=>e=.returned (.int .i64 (pX a.di key))∧Below w w w':=by
 go_enter func145,ntmps145
 go_wp2_with (go_at_call 141;refine (rR _ _ _).mono ?_;rintro e w' ⟨rfl,rfl⟩)
 go_ret
 exact ⟨rfl,aJ⟩
def I7 (l:List aV) (n:Nat) (key:Int) (lo hi:Nat):Prop:=(∀t,t<lo→ltI (wth l t).di key=true)∧∀t,hi≤t→t<n→ltI (wth l t).di key=false
theorem I7.pos {l:List aV} {n:Nat} {key:Int} {lo:Nat} (h:I7 l n key lo lo) (hn:l.length=n) (hlo:lo≤n):eK l key=lo:=
 sG _ l lo y2 (fun t ht=>by rw [List.getD_eq_getElem?_getD] at *;have:=h.1 t ht;exact this) (fun ht=>h.2 lo (Nat.le_refl _) y2)
theorem Jv (A:Option Addr) (n c:Nat) (l:List aV) (key:Int) (lo':Nat) (y:Bool) (w:World) (hl:eC w A n l) (hP:gK l) (hn:n≤1000000000) (hlo':eK l key=lo') (hy:eW l key=y) :
 Calls prog 144 #[.slice A n c,key,.func (.func 145) #[] #[]] w fun e w'=>e=.returned (.tuple #[lo',.bool y])∧Below w w w':=by
 have HL:=ħ hl;have HN:=ħ hl.1;have HP:=ħ hP;have HLO:=ħ hlo';have HY:=ħ hy;clear hl hP hlo' hy;go_enter func144,ntmps144
 go_wp2_with fail
 go_loopw [9,10] (fun s7 s8 wr=>∃lo hi:Nat,s7=.int .i64 lo∧s8=.int .i64 hi∧lo≤hi∧hi≤n∧Hid (I7 l n key lo hi)∧Below w w wr) (fun s7 s8 _=>(intOf s8).toNat-(intOf s7).toNat)
 case atStart=>exact ⟨0,n,rfl,rfl,Nat.zero_le _,Nat.le_refl _,⟨fun t ht=>absurd ht (Nat.not_lt_zero _),fun t h1 h2=>by omega⟩,Below.refl _ _⟩
 case round=>
  obtain ⟨lo,hi,rfl,rfl,hlh,hin,I,hbw⟩:=hrel
  (obtain ⟨wx,hwx⟩:∃x,x=wr:=⟨_,rfl⟩);subst hwx
  by_cases hlt:lo<hi
  · obtain ⟨b,off,rfl,hb,hc⟩:=(HL.out.up hbw).2.2 y2;refine nm ((lo+hi) / 2) fun m hm=>?_;have hmn:m<n:=by omega
    obtain ⟨Bq,mq,dq,⟨c0,c1⟩,-⟩:=hc m hmn;have hd2:((lo:Int)+(hi:Int)) / 2=(m:Int):=by rw [hm];omega
    have hm2:m<hi:=by omega
    have hm1:lo≤m:=by omega
    have HM2:=ħ hm;clear hc hm;cases hbf:ltI (wth l m).di key
    · have hd:decide (pX (wth l m).di key<0)=false:=by rw [decide_eq_false_iff_not,An,hbf];simp
      have HB:=ħ hbf;clear hbf;go_wp2_with (go_at_call 145;refine (D0 (wth l m) Bq mq dq key _).mono ?_;rintro e w1 ⟨rfl,hb1⟩)
      (refine rnd ?_;(refine ⟨lo,m,rfl,by go_num,by omega,by omega,ħ ⟨I.out.1,fun t h1 h2=>?_⟩,aA hbw hb1⟩;rcases Nat.lt_or_ge m t with h5|h5;exact FO (HP.out m t h5 (by rw [HN.out];exact h2)) HB.out;(obtain rfl:t=m:=by omega);exact HB.out))
    · have hd:decide (pX (wth l m).di key<0)=true:=by rw [decide_eq_true_eq,An,hbf]
      have HB:=ħ hbf;clear hbf;go_wp2_with (go_at_call 145;refine (D0 (wth l m) Bq mq dq key _).mono ?_;rintro e w1 ⟨rfl,hb1⟩)
      (refine rnd ?_;(refine ⟨m+1,hi,by go_num,rfl,by omega,by omega,ħ ⟨fun t h1=>?_,I.out.2⟩,aA hbw hb1⟩;rcases Nat.lt_or_ge t m with h5|h5;exact BX (HP.out t m h5 (by rw [HN.out];exact hmn)) HB.out;(obtain rfl:t=m:=by omega);exact HB.out))
  · obtain rfl:hi=lo:=by omega
    have hpos:=I.out.pos HN.out hin;rw [HLO.out] at hpos;subst hpos;by_cases hln:lo'<n
    · obtain ⟨b,off,rfl,hb,hc⟩:=(HL.out.up hbw).2.2 y2;obtain ⟨Bq,mq,dq,⟨c0,c1⟩,-⟩:=hc lo' hln;clear hc
      have hyv:y=(pX (wth l lo').di key == 0):=by
       rw [←HY.out,Bool.eq_iff_iff];unfold eW;rw [HLO.out,bJ,beq_iff_eq,Ew,HN.out];exact ⟨fun h=>h.2,fun h=>⟨hln,h⟩⟩
      have HYV:=ħ hyv;clear hyv;go_wp2_with (go_at_call 145;refine (D0 (wth l lo') Bq mq dq key _).mono ?_;rintro e w1 ⟨rfl,hb1⟩)
      go_ret2
      exact ⟨by rw [HYV.out];rfl,aA hbw hb1⟩
    · have hh:y=false:=by
       rw [←HY.out];cases h:eW l key
       · rfl
       · have:=(bJ.1 h).1;rw [HN.out,HLO.out] at this;exact absurd this hln
      subst hh;go_wp2_with fail
      go_ret2
      exact ⟨rfl,hbw⟩
theorem nE (A:Option Addr) (n c:Nat) (l:List aV) (key:Int) (lo:Nat) (y:Bool) (w:World) (hl:eC w A n l) (hP:gK l) (hn:n≤1000000000) (hlo:eK l key=lo) (hy:eW l key=y) :
 Calls prog 120 #[.slice A n c,key] w fun e w'=>e=.returned (.tuple #[lo,.bool y])∧Below w w w':=by
 have HL:=ħ hl;have HP:=ħ hP;clear hl hP;go_enter func120,ntmps120
 go_wp2_with fail
 refine (Jv A n c l key lo y _ (HL.out.up (aJ)) HP.out hn hlo hy).mono ?_;rintro e w1 ⟨rfl,hb1⟩;go_wp2_with fail
 go_ret2
 exact ⟨rfl,aJ⟩
def dO (l:List Int) (m:Int):Prop:=(∀i j,i<j→j<l.length→nth l i<nth l j)∧∀j,j<l.length→1≤nth l j∧nth l j≤m
def xR (l:List Int):List Value:=(List.range 17).map fun x:Nat=>Value.bool (decide ((x:Int)∈l))
theorem Fh:xR []=[.bool false,.bool false,.bool false,.bool false,.bool false,.bool false,.bool false,.bool false,.bool false,.bool false,.bool false,.bool false,.bool false,.bool false,.bool false,.bool false,.bool false]:=by rfl
theorem FX (l:List Int) (x:Nat) (hx:x<17):(xR l)[x]? =some (.bool (decide ((x:Int)∈l))):=by
 unfold xR;simp [hx]
theorem Fi (l:List Int) (x:Nat) (hx:x<17):(xR l).set x (.bool true)=xR (l ++ [(x:Int)]):=by
 apply List.ext_getElem?;intro q;unfold xR;by_cases hq:q<17
 · rw [List.getElem?_set];by_cases he:x=q
   · subst he;simp [hq]
   · have:¬((q:Int)=(x:Int)):=by omega
     simp [he,hq,this]
 · rw [List.getElem?_eq_none y13,List.getElem?_eq_none y13]
def Fy (A:Option Addr) (n c:Nat) (l:List Int) (nodes:Int) (w:World) (a':Act) (w':World):Prop:=
 ∃(k:Nat) (u2 u3 u4 u8 u9 nN lV lW kK kL kM kN lX kO kP kQ kR kS kT kU kV kX kY lB lC lD lE lF lH lI lJ lK:Value),a'={tmps:=#[nodes,.slice A n c,u2,u3,u4,.pointer (some ⟨w,0,none⟩),.int .i64 (k:Int),.int .i64 (k:Int),u8,u9,nN,lV,lW,kK,kL,kM,kN,lX,kO,kP,kQ,kR,kS,kT,kU,kV,kX,kY,lB,lC,lD,lE,lF,lH,lI,lJ,lK],defers:=[]}∧k≤n∧Blk w' w.heap.size 164 (xR (l.take k))∧Below w w w'
theorem Fy.mk {A:Option Addr} {n c:Nat} {l:List Int} {nodes:Int} {w:World} {ix iy:Int} {k:Nat} {u2 u3 u4 u8 u9 nN lV lW kK kL kM kN lX kO kP kQ kR kS kT kU kV kX kY lB lC lD lE lF lH lI lJ lK:Value} {w':World} (hk:k≤n) (h:Blk w' w.heap.size 164 (xR (l.take k))) (hb:Below w w w') (hix:ix=(k:Int)) (hiy:iy=(k:Int)) :
 Fy A n c l nodes w {tmps:=#[nodes,.slice A n c,u2,u3,u4,.pointer (some ⟨w,0,none⟩),ix,iy,u8,u9,nN,lV,lW,kK,kL,kM,kN,lX,kO,kP,kQ,kR,kS,kT,kU,kV,kX,kY,lB,lC,lD,lE,lF,lH,lI,lJ,lK],defers:=[]} w':=by
 subst hix;subst hiy;exact ⟨k,_,_,_,_,_,_,_,_,_,_,_,_,_,_,_,_,_,_,_,_,_,_,_,_,_,_,_,_,_,_,_,_,rfl,hk,h,hb⟩
theorem yX (A:Option Addr) (n c:Nat) (l:List Int) (nodes:Int) (w:World) (hl:aL w A n l) (hr:dO l nodes) (hm:nodes≤16) :
 Calls prog 148 #[nodes,.slice A n c] w fun e w'=>e=.returned (.int .i64 (n:Int))∧Below w w w':=by
 have HL:=ħ hl;have HN:=ħ hl.1;have HR:=ħ hr;have hnn:n≤9223372036854775807:=hl.2.1;clear hl hr;go_enter func148,ntmps148
 go_wp2_with fail
 refine uZ 0 (Fy A n c l nodes w) (fun a' _=>n-(intOf (a'.tmps.getD 7 undef)).toNat) rfl ?_ ?_
 · intro hpass;go_wp2_with fail
   rename_i K hK;apply wp_label;apply hK;exact hpass _ _ (Fy.mk (k:=0) (Nat.zero_le _) (by rw [List.take_zero,Fh];exact Blk.new _ _ _) (aJ) rfl rfl)
 · rintro a' w' ⟨k,u2,u3,u4,u8,u9,nN,lV,lW,kK,kL,kM,kN,lX,kO,kP,kQ,kR,kS,kT,kU,kV,kX,kY,lB,lC,lD,lE,lF,lH,lI,lJ,lK,rfl,hk,hB,hbw⟩;by_cases hlt:k<n
   · obtain ⟨b,off,rfl,hb,hc⟩:=(HL.out.up hbw).2.2 y2;have hck:=hc k hlt;obtain ⟨h1,h2⟩:=HR.out.2 k y18;obtain ⟨x,hx⟩:∃x:Nat,nth l k=(x:Int):=⟨(nth l k).toNat,by omega⟩
     have hnew:¬((x:Int)∈l.take k):=fun hmem=>by
      obtain ⟨j,hj,e⟩:=List.getElem_of_mem hmem;rw [List.length_take] at hj;have h3:=HR.out.1 j k y2 y18;have e2:nth l j=(x:Int):=by rw [←e];simp [nth,show j<l.length by omega]
      omega
     rw [hx] at hck h1 h2;have hx17:x<17:=by omega
     have hcx:w'.cell? ⟨w,x,none⟩=some (.bool false):=hB.box.2 x _ (by rw [FX _ x hx17];simp [hnew]);have hfx:=hB.frozen;have hltB:=hB.lt;have hx1:decide ((1:Int)≤(x:Int))=true:=by simpa using h1
     have hx2:decide ((x:Int)≤nodes)=true:=by simpa using h2
     have hx0:(0:Int)≤(x:Int):=by omega
     have hxi:(x:Int)<17:=by omega
     have hne:((k:Int) == (n:Int))=false:=by simp;omega
     have HB2:Hid (Blk (w'.setCell ⟨w,x,none⟩ (.bool true)) w.heap.size 164 (xR (l.take (k+1)))):=ħ (by rw [jB l k y18,hx,← Fi _ x hx17];exact hB.set_ x _);clear hc hnew hB hx;go_wp2_with fail
     apply wp_goto;refine ⟨rfl,Fy.mk (k:=k+1) y2 HB2.out (aI) y2 y2,?_⟩;simp [intOf];omega
   · obtain rfl:k=n:=by omega
     have hne:((k:Int) == (k:Int))=true:=by simp
     go_wp2_with fail
     simp only [Exit.jump];go_ret
     exact ⟨rfl,hbw⟩
def cQ (l:List Int) (x:Int):Bool:=decide (x∈l)
theorem Cz (A:Option Addr) (n c:Nat) (l:List Int) (x:Int) (w:World) (hl:aL w A n l) :
 Calls prog 153 #[.slice A n c,x] w fun e w'=>∃z:Int,e=.returned (.int .i64 z)∧decide (0≤z)=cQ l x∧Below w w w':=by
 have HL:=ħ hl;have HN:=ħ hl.1;have hnn:n≤9223372036854775807:=hl.2.1;clear hl;go_enter func153,ntmps153
 go_wp2_with fail
 go_loopw [8] (fun iv wr=>∃k:Nat,k≤n∧iv=.int .i64 k∧Hid (∀j,j<k→nth l j≠x)∧Below w w wr) (fun iv _=>n-(intOf iv).toNat)
 case atStart=>exact ⟨0,Nat.zero_le _,rfl,ħ (fun j hj=>absurd hj y2),Below.refl _ _⟩
 case round=>
  obtain ⟨k,hk,rfl,HQ,hbw⟩:=hrel
  (obtain ⟨wk,hwk⟩:∃x,x=wr:=⟨_,rfl⟩);subst hwk
  by_cases hlt:k<n
  · obtain ⟨b,off,rfl,hb,hc⟩:=(HL.out.up hbw).2.2 y2;have hck:=hc k hlt;clear hc;by_cases hq:x=nth l k
    · have HE:=ħ hq;have hd:(x == nth l k)=true:=by simpa using hq
      clear hq;go_wp2_with fail
      go_ret
      exact ⟨_,rfl,(by rw [Bool.eq_iff_iff];unfold cQ;simp only [decide_eq_true_eq];exact ⟨fun _=>by rw [HE.out];simp [nth,show k<l.length by rw [HN.out];exact hlt],fun _=>by omega⟩),hbw⟩
    · have HE:=ħ hq;have hd:(x == nth l k)=false:=by simpa using hq
      clear hq;go_wp2_with fail
      (refine rnd ?_;exact ⟨k+1,by omega,by go_num,ħ (fun j hj=>by (rcases Nat.lt_or_ge j k with h|h;exact HQ.out j h;(obtain rfl:j=k:=by omega);exact fun e=>HE.out e.symm)),hbw⟩)
  · obtain rfl:k=n:=by omega
    go_wp2_with fail
    go_ret
    exact ⟨_,rfl,(by rw [Bool.eq_iff_iff];unfold cQ;simp only [decide_eq_true_eq];exact ⟨fun h=>absurd h y2,fun h=>absurd h (fun hm=>by obtain ⟨j,hj,e⟩:=List.getElem_of_mem hm;exact HQ.out j (by rw [←HN.out];exact hj) (by simp [nth,hj,e]))⟩),hbw⟩
theorem cD (A:Option Addr) (n c:Nat) (l:List Int) (x:Int) (y:Bool) (w:World) (hl:aL w A n l) (hy:cQ l x=y) :
 Calls prog 132 #[.slice A n c,x] w fun e w'=>e=.returned (.bool y)∧Below w w w':=by
 have HL:=ħ hl;have HY:=ħ hy;clear hl hy;go_enter func132,ntmps132
 go_wp2_with fail
 refine (Cz A n c l x _ (HL.out.up (aJ))).mono ?_;rintro e w1 ⟨z,rfl,hz,hb1⟩;have HZ:=ħ hz;clear hz;go_wp2_with fail
 go_ret
 exact ⟨aH (by rw [←HY.out,← HZ.out]),aJ⟩
theorem FU (n:Int) (w:World) (h0:0≤n) (h1:n≤1000):Calls prog 117 #[n] w fun e w'=>e=.returned (.int .i64 (2*(n / 3)+1))∧w=w':=by
 go_enter func117,ntmps117
 go_wp2
 go_ret
 exact ⟨rfl,rfl⟩
theorem Jh (l:List Int) (x:Int) (y:Bool) (h:cQ l x=y):decide (0≤inS l x)=y:=by
 subst h;unfold cQ;by_cases hm:x∈l
 · have:¬inS l x<0:=fun q=>iT.1 q hm;simp [hm];omega
 · have:inS l x<0:=iT.2 hm;simp [hm,this]
def zR (l:List Int):Nat→Nat
 | 0=>0
 | k+1=>zR l k+if cQ l ((k:Int)+1)=true then 1 else 0
theorem yV {l:List Int} (hd:l.Nodup) (h1:∀x∈l,1≤x):∀k:Nat,zR l k=(l.filter fun x=>decide (x≤(k:Int))).length
 | 0=>by
  have:l.filter (fun x=>decide (x≤((0:Nat):Int)))=[]:=List.filter_eq_nil_iff.2 (fun x hx=>by have:=h1 x hx;simp;omega);rw [this];rfl
 | k+1=>by
  rw [zR,yV hd h1 k];clear h1
  induction l with
  | nil=>simp [cQ]
  | cons a l ih=>
   have hda:=List.nodup_cons.1 hd;have ih:=ih hda.2;by_cases ha:a=(k:Int)+1
   · subst ha;have hm:cQ l ((k:Int)+1)=false:=by unfold cQ;simp [hda.1]
     have hm2:cQ (((k:Int)+1) :: l) ((k:Int)+1)=true:=by unfold cQ;simp
     rw [hm] at ih;rw [hm2];have e1:decide (((k:Int)+1)≤(k:Int))=false:=by simp;omega
     have e2:decide (((k:Int)+1)≤((k+1:Nat):Int))=true:=by simp
     rw [List.filter_cons,List.filter_cons,e1,e2];simp only [Bool.false_eq_true,if_false,if_true,List.length_cons];simp only [Bool.false_eq_true,if_false,Nat.add_zero] at ih;omega
   · have hm:cQ (a :: l) ((k:Int)+1)=cQ l ((k:Int)+1):=by unfold cQ;simp [Ne.symm ha]
     rw [hm,List.filter_cons,List.filter_cons]
     have e1:decide (a≤((k+1:Nat):Int))=decide (a≤(k:Int)):=by
      rw [Bool.eq_iff_iff];simp only [decide_eq_true_eq];omega
     rw [e1];split<;>(try simp only [List.length_cons])<;>omega
theorem dO.nodup {l:List Int} {m:Int} (h:dO l m):l.Nodup:=by
 rw [List.nodup_iff_pairwise_ne,List.pairwise_iff_getElem];intro i j hi hj hij;have:=h.1 i j hij hj;simp only [nth,List.getD_eq_getElem?_getD,List.getElem?_eq_getElem hi,List.getElem?_eq_getElem hj,Option.getD_some] at this;omega
theorem dO.cnt {l:List Int} {m:Int} (h:dO l m) (hm:0≤m):zR l m.toNat=l.length:=by
 have hb:∀x∈l,1≤x∧x≤m:=fun x hx=>by
  obtain ⟨j,hj,e⟩:=List.getElem_of_mem hx;have:=h.2 j hj;simp only [nth,List.getD_eq_getElem?_getD,List.getElem?_eq_getElem hj,Option.getD_some] at this;rw [←e];exact this
 rw [yV h.nodup (fun x hx=>(hb x hx).1),List.filter_eq_self.2 (fun x hx=>by have:=(hb x hx).2;simp;omega)]
theorem Bg (A:Option Addr) (n c:Nat) (l:List Int) (nodes:Int) (w:World) (hl:aL w A n l) (hr:dO l nodes) (h0:0≤nodes) (hm:nodes≤16) :
 Calls prog 116 #[nodes,.slice A n c] w fun e w'=>e=.returned (.int .i64 (n:Int))∧w=w':=by
 have HL:=ħ hl;have HN:=ħ hl.1;have HC:=ħ (hr.cnt h0)
 have hle:∀k,zR l k≤k:=fun k=>by
  induction k with
  | zero=>exact Nat.le_refl _
  | succ k ih=>unfold zR;split<;>omega
 have HLE:=ħ hle;clear hl hr hle;go_enter func116,ntmps116
 go_wp2_with fail
 go_loop [5,6] (fun v iv=>∃k:Nat,(k:Int)≤nodes∧iv=.int .i64 ((k:Int)+1)∧v=.int .i64 (zR l k:Nat)) (fun _ iv=>18-(intOf iv).toNat)
 case atStart=>exact ⟨0,h0,by go_num,rfl⟩
 case round=>
  obtain ⟨k,hk,rfl,rfl⟩:=hrel;refine mn (zR l k) fun cn hcn=>?_;have hcb:=HLE.out k;have HCN:=ħ hcn;rw [hcn] at hcb ⊢;clear hcn;by_cases hlt:(k:Int)<nodes
  · have hd:decide ((k:Int)+1≤nodes)=true:=by simp only [decide_eq_true_eq];omega
    refine mn (cQ l ((k:Int)+1)) fun y hy=>?_;have hI:=Jh l ((k:Int)+1) y hy;have HY:=ħ hy;clear hy;cases y
    · have hs:zR l (k+1)=cn:=by rw [zR,HY.out,HCN.out];simp
      have HS:=ħ hs;clear hs;go_wp2_with (go_at_call 70;refine (eT A n c l ((k:Int)+1) _ HL.out).mono ?_;rintro e w' ⟨rfl,rfl⟩)
      (refine rnd ?_;exact ⟨k+1,by omega,by go_num,by (rw [HS.out])⟩)
    · have hs:zR l (k+1)=cn+1:=by rw [zR,HY.out,HCN.out];simp
      have HS:=ħ hs;clear hs;go_wp2_with (go_at_call 70;refine (eT A n c l ((k:Int)+1) _ HL.out).mono ?_;rintro e w' ⟨rfl,rfl⟩)
      (refine rnd ?_;exact ⟨k+1,by omega,by go_num,by (rw [HS.out];go_num)⟩)
  · have hd:decide ((k:Int)+1≤nodes)=false:=by simp only [decide_eq_false_iff_not];omega
    have hkn:nodes.toNat=k:=by omega
    have hfin:cn=n:=by rw [←HCN.out,← hkn,HC.out,HN.out]
    have HF:=ħ hfin;clear hfin hkn;go_wp2_with fail
    go_ret
    exact ⟨by rw [←HF.out];rfl,rfl⟩
def noB:bY:=⟨0,0,[]⟩
noncomputable def nxB (D:aD):bY:=if nxE D=0 then nxD D else noB
noncomputable def mkE (D:aD):Int:=if dZ D=true then nxE D else 1
noncomputable def mkB (D:aD):bY:=if dZ D=true then nxB D else noB
theorem ED (D:aD):(nxB D).tx.length≤1000000:=by
 unfold nxB;split
 · show (D.op.take 8).length≤_;simp;omega
 · exact Nat.zero_le _
theorem DK (P:aF) (D:aD) (w:World) (h:bG w P D) (hon:D.op.length≤800000000) (hhe:D.he.length≤1024) :
 Calls prog 79 #[P.val D] w fun e w'=>∃v,e=.returned (.tuple #[.agg #[.int .i64 (nxB D).au,.int .i64 (nxB D).n,v],.int .i64 (nxE D)])∧bD w' w.heap.size v (nxB D).tx∧Below w w w':=by
 by_cases hE:nxE D=0
 · unfold nxB;rw [if_pos hE,hE];exact jD P D w h hE hon
 · unfold nxB;rw [if_neg hE];exact (tR P D _ w h rfl hE hhe).mono fun e w' ⟨h1,h2⟩=>⟨_,h1,bD.nil _ _,h2⟩
theorem Eg (P:aF) (D:aD) (w:World) (h:bG w P D) (hon:D.op.length≤800000000) (hhe:D.he.length≤1024) :
 Calls prog 41 #[P.val D] w fun e w'=>∃v,e=.returned (.tuple #[.agg #[.int .i64 (nxB D).au,.int .i64 (nxB D).n,v],.int .i64 (nxE D)])∧bD w' w.heap.size v (nxB D).tx∧Below w w w':=by
 by_cases hE:nxE D=0
 · unfold nxB;rw [if_pos hE,hE];exact jR P D w h hE hon
 · unfold nxB;rw [if_neg hE];exact (uU P D _ w h rfl hE hhe).mono fun e w' ⟨h1,h2⟩=>⟨_,h1,bD.nil _ _,h2⟩
theorem zL (P:aF) (D:aD) (w:World) (h:bG w P D) (hon:D.op.length≤800000000) :
 Calls prog 42 #[P.val D] w fun e w'=>∃v,e=.returned (.tuple #[.agg #[.int .i64 (mkB D).au,.int .i64 (mkB D).n,v],.int .i64 (mkE D)])∧bD w' w.heap.size v (mkB D).tx∧Below w w w':=by
 have H:=ħ h;have HO:=ħ hon;refine mn (dZ D) fun z hz=>?_;have HZ:=ħ hz;clear h hon;have e1:mkE D=cond z (nxE D) 1:=by unfold mkE;rw [hz];cases z<;>rfl
 have e2:mkB D=cond z (nxB D) noB:=by unfold mkB;rw [hz];cases z<;>rfl
 rw [e1,e2];clear e1 e2;show Calls prog 42 #[.agg (cW D P)] w _;go_enter func42,ntmps42
 go_wp2_with fail
 have hX1:Blk ((w.alloc (.cells (cW D P) 27)).alloc (.cells #[z0,z0,n0] 43)) w.heap.size 27 (cW D P):=(Blk.new w 27 (cW D P)).up (aJ)
 have hX3:Blk ((w.alloc (.cells (cW D P) 27)).alloc (.cells #[z0,z0,n0] 43)) (w.heap.size+1) 43 [z0,z0,n0]:=by
  have:=Blk.new (w.alloc (.cells (cW D P) 27)) 43 [z0,z0,n0];simpa using this
 have hbX:Below w w ((w.alloc (.cells (cW D P) 27)).alloc (.cells #[z0,z0,n0] 43)):=aJ;generalize ((w.alloc (.cells (cW D P) 27)).alloc (.cells #[z0,z0,n0] 43))=X at *;have HX1:=ħ hX1;have HX3:=ħ hX3;clear hX1 hX3;refine (dK P D z _ (H.out.up hbX) HZ.out).mono ?_;rintro e w1 ⟨rfl,hb1⟩;have hY1:=HX1.out.up hb1;have hbY:=aA hbX hb1;have l1:=hY1.lt;obtain ⟨a_0,a_1,a_2,a_3,a_4,a_5,a_6,a_7,a_8⟩:=bx9 hY1.box;have hY3:=HX3.out.up hb1;have l3:=hY3.lt;have f3:=hY3.frozen;obtain ⟨c_0,c_1,c_2⟩:=bx3 hY3.box;have HY3:=ħ hY3;clear hY1 HX1 hY3 HX3 hb1 hbX;cases z
 · clear hz;go_wp2_with fail
   exact bodyPost_ret (v:=.tuple #[.agg #[z0,z0,n0],.int .i64 1]) (by simp [results,results42,go_sem, *]) rfl ⟨_,rfl,bD.nil _ _,aI⟩
 · have hm:=(cX.1 hz).2.2.2.2.2.2.2.1;have HM:=ħ hm;have HNL:=ħ (ED D);clear hz hm;go_wp2_with (go_at_call 79;refine (DK P D _ (H.out.up hbY) HO.out HM.out).mono ?_;rintro e w2 ⟨v,rfl,ho,hb2⟩;obtain ⟨vA,vc,rfl,hq1,hq2,hq3⟩:=ho.txs (Nat.le_trans HNL.out y5);have HO2:=ħ ho;clear hq1 hq2 hq3;have hZ3:=HY3.out.up hb2;have m3:=hZ3.lt;have f4:=hZ3.frozen;obtain ⟨d_0,d_1,d_2⟩:=bx3 hZ3.box;have hlB:=hZ3.lt;clear ho hZ3 c_0 c_1 c_2)
   go_wp2_with fail
   exact bodyPost_ret (v:=.tuple #[.agg #[.int .i64 (nxB D).au,.int .i64 (nxB D).n,.slice vA (nxB D).tx.length vc],.int .i64 (nxE D)]) (by simp [results,results42,go_sem, *]) rfl ⟨.slice vA (nxB D).tx.length vc,rfl,((((HO2.out.set3 (o:=0) l3 _).set3 (o:=1) l3 _).set3 (o:=2) l3 _)).mono (by have:=hbY.size;omega),aI⟩
theorem Do (P:aF) (D:aD) (w:World) (h:bG w P D) (hon:D.op.length≤800000000) (hz:dZ D=true) :
 Calls prog 41 #[P.val D] w fun e w'=>∃v,e=.returned (.tuple #[.agg #[.int .i64 (mkB D).au,.int .i64 (mkB D).n,v],.int .i64 (mkE D)])∧bD w' w.heap.size v (mkB D).tx∧Below w w w':=by
 have e1:mkE D=nxE D:=by unfold mkE;rw [if_pos hz]
 have e2:mkB D=nxB D:=by unfold mkB;rw [if_pos hz]
 rw [e1,e2];exact Eg P D w h hon ((cX.1 hz).2.2.2.2.2.2.2.1)
end Go.Proofs.YtgfakefcmbpboaaGreat
