/- Part 34 of what WorkerExact leans on. No conditions. -/
import Derived.Test.YtgfakefcmbpboaaGreatV33
namespace Go.Proofs.YtgfakefcmbpboaaGreat
set_option linter.all false
set_option maxRecDepth 100000
set_option maxHeartbeats 64000000
open _root_.Go.Proofs.Tryz Go.RowKit
open Tok
def jL (L l:List Int):List Int:=l.filter fun x=>!cQ L x
theorem Ba {L l:List Int} {n:Nat} (hn:n<l.length) (h:cQ L (nth l n)=false):jL L (l.take (n+1))=jL L (l.take n) ++ [nth l n]:=by
 unfold jL;rw [jB l n hn,List.filter_append];simp [h]
theorem Cm {L l:List Int} {n:Nat} (hn:n<l.length) (h:cQ L (nth l n)=true):jL L (l.take (n+1))=jL L (l.take n):=by
 unfold jL;rw [jB l n hn,List.filter_append];simp [h]
theorem Dl (L l:List Int):(jL L l).length≤l.length:=List.length_filter_le _ _
theorem A0 {L l:List Int}:∀(n:Nat),n≤l.length→(∀j,j<n→cQ L (nth l j)=false)→jL L (l.take n)=l.take n
 | 0,_,_=>by simp [jL]
 | n+1,hn,h=>by rw [Ba y2 (h n y2),A0 n y2 (fun j hj=>h j y2),jB l n y2]
theorem nD (x:Int) (g:Nat) (lA:Option Addr) (ln lc:Nat) (L:List Int) (y:Bool) (w:World) (hg:w.cell? ⟨g,0,none⟩=some (.slice lA ln lc)) (hL:aL w lA ln L) (hy:cQ L x=y) :
 Calls prog 137 #[x,.pointer (some ⟨g,0,none⟩)] w fun e w'=>e=.returned (.bool y)∧Below w w w':=by
 have HL:=ħ hL;have HY:=ħ hy;clear hL hy;go_enter func137,ntmps137
 go_wp2_with (go_at_call 132;refine (cD lA ln lc L x y _ HL.out HY.out).mono ?_;rintro e w1 ⟨rfl,hb1⟩)
 go_ret
 exact ⟨rfl,hb1⟩
def I8 (L l:List Int) (n:Nat) (y:Int):Prop:=(y=-1∧∀j,j<n→cQ L (nth l j)=false)∨∃i:Nat,i<n∧y=(i:Int)∧cQ L (nth l i)=true∧∀j,j<i→cQ L (nth l j)=false
theorem vI (A:Option Addr) (n c:Nat) (l:List Int) (g:Nat) (lA:Option Addr) (ln lc:Nat) (L:List Int) (w:World) (hl:aL w A n l) (hg:w.cell? ⟨g,0,none⟩=some (.slice lA ln lc)) (hgl:g<w.heap.size) (hL:aL w lA ln L) :
 Calls prog 156 #[.slice A n c,.func (.func 137) #[] #[.pointer (some ⟨g,0,none⟩)]] w fun e w'=>∃y,e=.returned (.int .i64 y)∧I8 L l n y∧Below w w w':=by
 have HL:=ħ hl;have HM:=ħ hL;have hnn:n≤9223372036854775807:=hl.2.1;clear hl hL;go_enter func156,ntmps156
 go_wp2
 go_loopw [8] (fun i wr=>∃k:Nat,k≤n∧i=.int .i64 k∧Hid (∀j,j<k→cQ L (nth l j)=false)∧Below w w wr) (fun i _=>n-(intOf i).toNat)
 case atStart=>exact ⟨0,Nat.zero_le _,rfl,ħ (fun j hj=>absurd hj y2),Below.refl _ _⟩
 case round=>
  obtain ⟨k,hk,rfl,hr,hbw⟩:=hrel
  (obtain ⟨wk,hwk⟩:∃x,x=wr:=⟨_,rfl⟩);subst hwk
  by_cases hlt:k<n
  · obtain ⟨b,off,rfl,hb,hc⟩:=(HL.out.up hbw).2.2 y2;have c0:=hc k hlt;have hg':=(hbw.cell (p:=⟨g,0,none⟩) hgl).trans hg;have hgl':g<wk.heap.size:=Nat.lt_of_lt_of_le hgl hbw.size;clear hc;refine mn (cQ L (nth l k)) fun y hy=>?_;have HQ:=ħ hy;clear hy;cases y
    · go_wp2_with (go_at_call 137;refine (nD (nth l k) g lA ln lc L false _ hg' (HM.out.up hbw) HQ.out).mono ?_;rintro e w1 ⟨rfl,hb1⟩)
      (refine rnd ?_;(refine ⟨k+1,by omega,by go_num,ħ (fun j hj=>?_),aA hbw hb1⟩;rcases Nat.lt_or_ge j k with h5|h5;exact hr.out j h5;(obtain rfl:j=k:=by omega);exact HQ.out))
    · go_wp2_with (go_at_call 137;refine (nD (nth l k) g lA ln lc L true _ hg' (HM.out.up hbw) HQ.out).mono ?_;rintro e w1 ⟨rfl,hb1⟩)
      go_ret
      exact ⟨k,rfl,.inr ⟨k,hlt,rfl,HQ.out,hr.out⟩,aA hbw hb1⟩
  · go_wp2
    go_ret
    exact ⟨-1,rfl,.inl ⟨rfl,fun j hj=>hr.out j y2⟩,hbw⟩
/-- clear of what stands from i on. -/
theorem Dz {w:World} {B n c g i cc:Nat} {xs:List Value} (h:w.ownsRow B 3 1 (.slice (some ⟨g,0,none⟩) n c) n xs) (hi:i<n) (ty:TypeId):∃w',(Builtin.clear_ #[25] ty #[.slice (some ⟨g,i,none⟩) (n-i) cc]).run prog w=.ok (.tuple #[]) w'∧w'.ownsRow B 3 1 (.slice (some ⟨g,0,none⟩) i c) i (xs.take i)∧Below B w w':=by
 obtain ⟨i0,hi0,hz0,hzs,hzb⟩:=info_parts wY;have hx:=h.1;rcases h.2 with ⟨e,_⟩|⟨g',cap,cur,e,hb,hg,hc,hm,hs,ht⟩
 · cases e
 · injection e with e1 e2 e3;injection e1 with e1;injection e1 with e1;subst e1;subst e3;refine nm ((Builtin.zeroCells (.int .i64 0:Value).cells (n-i)).toList) fun zs hzz=>?_;have hzl:zs.length=n-i:=by rw [hzz];simp [Builtin.zeroCells,Value.cells]
   have hz1:∀v∈zs,v.oneCell'=true:=fun v hv=>by
    rw [hzz] at hv;simp only [Builtin.zeroCells,Value.cells,Array.toList_map,List.mem_map] at hv;obtain ⟨q,_,rfl⟩:=hv;have:q % 1=0:=by omega
    simp [this,Value.oneCell']
   have hst:=run_storeCells_at prog g i 3 zs 0 cur w hg (by rw [hzl,hs];omega) hz1;rw [Nat.add_zero] at hst;obtain ⟨m,hm2⟩:∃m,n-i=m+1:=⟨n-i-1,by omega⟩
   have hrun:(Builtin.clear_ #[25] ty #[.slice (some ⟨g,i,none⟩) (n-i) cc]).run prog w=.ok (.tuple #[]) (w.setRow g (cur.toList.take i ++ zs ++ cur.toList.drop (i+zs.length)).toArray):=by
    rw [hm2] at hzz ⊢;rw [hzz] at hst ⊢;simp [Builtin.clear_,run_underlying underlying25,zeroValue,typeInfo,hi0,hz0,hst]
   have hcl:cur.toList.length=c:=by simpa using hs
   refine ⟨_,hrun,⟨by rw [List.length_take,hx];omega,.inr ⟨g,c,_,rfl,hb,setRow_heap w g cur _ _ _ hg,by omega,hm,?_,?_⟩⟩,⟨rfl,rfl,rfl,by simp,fun k hk=>setRow_other _ _ _ _ y2⟩⟩
   · simp only [List.size_toArray,List.length_append,List.length_take,List.length_drop,hzl,hcl];omega
   · have e1:(cur.toList.take i).length=i:=by rw [List.length_take,hcl];omega
     simp only [List.append_assoc];rw [Nat.mul_one,List.take_left' e1];rw [Nat.mul_one] at ht;rw [←ht,List.take_take]
     congr 1;omega
structure CM (L l:List Int) (n j i:Nat) (cur:List Int):Prop where
 len:cur.length=n
 hij:i<j
 hj:j≤n
 kept:cur.take i=jL L (l.take j)
 rest:∀q,j≤q→q<n→nth cur q=nth l q
theorem IL {l:List Int} {i q:Nat} {v:Int} (h:q≠i):nth (l.set i v) q=nth l q:=by
 unfold nth;simp [List.getElem?_set,Ne.symm h]
theorem CM.yes {L l:List Int} {n j i:Nat} {cur:List Int} (h:CM L l n j i cur) (hN:l.length=n) (hjn:j<n) (hr:cQ L (nth l j)=false):CM L l n (j+1) (i+1) (cur.set i (nth l j)):=by
 have hi:=h.hij;refine ⟨by simpa using h.len,by omega,by omega,?_,fun q h1 h2=>?_⟩
 · rw [Ba y2 hr,← h.kept];rw [List.take_succ_eq_append_getElem (by simp;rw [h.len];omega)];have e:(cur.set i (nth l j)).take i=cur.take i:=by rw [List.take_set];exact List.set_eq_of_length_le y34
   rw [e];simp
 · rw [IL y2];exact h.rest q y2 h2
theorem CM.no {L l:List Int} {n j i:Nat} {cur:List Int} (h:CM L l n j i cur) (hN:l.length=n) (hjn:j<n) (hr:cQ L (nth l j)=true):CM L l n (j+1) i cur:=
 ⟨h.len,by have:=h.hij;omega,by omega,by rw [Cm y2 hr];exact h.kept,fun q h1 h2=>h.rest q y2 h2⟩
theorem uJ (v:Value) (l:List Int) (B g:Nat) (lA:Option Addr) (ln lc:Nat) (L:List Int) (w:World) (hown:aE w B v l) (hn:l.length≤900000000) (hg:w.cell? ⟨g,0,none⟩=some (.slice lA ln lc)) (hgB:g<B) (hB:B≤w.heap.size) (hL:∀Y,Below B w Y→aL Y lA ln L) :
 Calls prog 136 #[v,.func (.func 137) #[] #[.pointer (some ⟨g,0,none⟩)]] w fun e w'=>∃u,e=.returned u∧aE w' B u (jL L l)∧Below B w w':=by
 refine nm l.length fun n hN=>?_;obtain ⟨A,c,rfl,hr,_⟩:=hown.ints y2;rw [←hN] at hr hn hown;rw [←hN];have HO:=ħ hown;have HN:=ħ hN.symm;have HR:=ħ hr;have HM:=ħ hL;have hgl:g<w.heap.size:=by omega
 clear hr hown hN hL;go_enter func136,ntmps136
 go_wp2_with fail
 refine (vI A n c l g lA ln lc L _ HR.out hg hgl (HM.out _ (Below.refl _ _))).mono ?_;rintro e w1 ⟨y,rfl,hF,hb1⟩;have hbB1:Below B w w1:=hb1.mono hB;rcases hF with ⟨rfl,hall⟩|⟨i,hi,rfl,hlow,hfst⟩
 · have he:jL L l=l:=by
    have:=A0 (l:=l) (L:=L) n (by rw [HN.out];exact Nat.le_refl _) hall;rw [List.take_of_length_le (by rw [HN.out];exact Nat.le_refl _)] at this;exact this
   have HE:=ħ he;clear he hall;go_wp2_with fail
   go_ret
   exact ⟨_,rfl,by rw [HE.out];exact HO.out.up hb1,hbB1⟩
 · have hD0:CM L l n (i+1) i l:=⟨HN.out,by omega,by omega,by rw [Cm (by rw [HN.out];exact hi) hlow,A0 i y30 hfst],fun q _ _=>rfl⟩;have HD0:=ħ hD0;have hO2:w.ownsRow B 3 1 (.slice A n c) n (l.map (Value.int .i64)):=by have:=HO.out;unfold aE at this;rw [HN.out] at this;exact this
   rcases eD hO2 with ⟨_,h0⟩|⟨gv,c',e,hgvB,hnc⟩
   · omega
   · injection e with e1 e2 e3;subst e1;subst e3;have HO2:=ħ (HO.out.up hb1);have hg1:=(hb1.cell (p:=⟨g,0,none⟩) hgl).trans hg;have hsz1:=hb1.size;clear hlow hfst hD0 hg hO2;go_wp2_with fail
     go_loopw [5,6] (fun ii ij wr=>∃(j i:Nat) (cur:List Int),ii=.int .i64 i∧ij=.int .i64 j∧j≤n∧i<n∧Hid (CM L l n j i cur)∧Hid (aE wr B (.slice (some ⟨gv,0,none⟩) n c) cur)∧Below B w1 wr) (fun _ ij _=>n-(intOf ij).toNat)
     case atStart=>exact ⟨i+1,i,l,rfl,by go_num,by omega,hi,HD0,HO2,Below.refl _ _⟩
     case round=>
      obtain ⟨j,i,cur,rfl,rfl,hj,hi,HD,HC,hbw⟩:=hrel
      (obtain ⟨wj,hwj⟩:∃x,x=wr:=⟨_,rfl⟩);subst hwj
      have hszj:=hbw.size;by_cases hlt:j<n
      · have hcl:cur.length=n:=HD.out.len;obtain ⟨c0,_⟩:=HC.out.get (i:=j) y2;have f0:=(HC.out.get (i:=i) y2).2;refine nm (nth l j) fun x hx=>?_;rw [HD.out.rest j (Nat.le_refl _) hlt,← hx] at c0;have hgj:wj.cell? ⟨g,0,none⟩=some (.slice lA ln lc):=(hbw.cell (p:=⟨g,0,none⟩) hgB).trans hg1;have hgvl:gv<wj.heap.size:=(HC.out.lt gv rfl).2;have hglj:g<wj.heap.size:=by omega
        have HX:=ħ hx;have hLj:=HM.out wj (hbB1.trans hbw);have HLJ:=ħ hLj;clear hx hLj hcl;refine mn (cQ L x) fun y hy=>?_;have HQ:=ħ hy;clear hy;cases y
        · go_wp2_with (go_at_call 137;refine (nD x g lA ln lc L false _ hgj HLJ.out HQ.out).mono ?_;rintro e w2 ⟨rfl,hb2⟩;have f2:=((HC.out.up hb2).get (i:=i) (by rw [HD.out.len];omega)).2;have i2:=((HC.out.up hb2).get (i:=i) (by rw [HD.out.len];omega)).1;have hl2:gv<w2.heap.size:=Nat.lt_of_lt_of_le hgvl hb2.size;clear c0 f0)
          have hij:=HD.out.hij;have hbB2:Below B w1 w2:=hbw.trans (hb2.mono y2)
          (first|(go_round;(case rel=>exact ⟨j+1,i+1,cur.set i x,by go_num,by go_num,by omega,by omega,ħ (HX.out▸HD.out.yes HN.out hlt (HX.out▸HQ.out)),ħ ((HC.out.up hb2).put (by rw [HD.out.len];omega)),hbB2.setCell hgvB _⟩);(case measure=>(simp [intOf]<;>omega)))|(go_roundw;(case rel=>exact ⟨j+1,i+1,cur.set i x,by go_num,by go_num,by omega,by omega,ħ (HX.out▸HD.out.yes HN.out hlt (HX.out▸HQ.out)),ħ ((HC.out.up hb2).put (by rw [HD.out.len];omega)),hbB2.setCell hgvB _⟩);(case measure=>(simp [intOf]<;>omega)))|(refine ⟨?_,by simp [intOf]<;>omega⟩;(repeat apply Exists.intro);refine ⟨?rel,?fr⟩;(case fr=>((repeat' apply And.intro)<;>rfl));(case rel=>exact ⟨j+1,i+1,cur.set i x,by go_num,by go_num,by omega,by omega,ħ (HX.out▸HD.out.yes HN.out hlt (HX.out▸HQ.out)),ħ ((HC.out.up hb2).put (by rw [HD.out.len];omega)),hbB2.setCell hgvB _⟩)))
        · go_wp2_with (go_at_call 137;refine (nD x g lA ln lc L true _ hgj HLJ.out HQ.out).mono ?_;rintro e w2 ⟨rfl,hb2⟩)
          have hbB2:Below B w1 w2:=hbw.trans (hb2.mono y2)
          (first|(go_round;(case rel=>exact ⟨j+1,i,cur,rfl,by go_num,by omega,hi,ħ (HD.out.no HN.out hlt (HX.out▸HQ.out)),ħ (HC.out.up hb2),hbB2⟩);(case measure=>(simp [intOf]<;>omega)))|(go_roundw;(case rel=>exact ⟨j+1,i,cur,rfl,by go_num,by omega,hi,ħ (HD.out.no HN.out hlt (HX.out▸HQ.out)),ħ (HC.out.up hb2),hbB2⟩);(case measure=>(simp [intOf]<;>omega)))|(refine ⟨?_,by simp [intOf]<;>omega⟩;(repeat apply Exists.intro);refine ⟨?rel,?fr⟩;(case fr=>((repeat' apply And.intro)<;>rfl));(case rel=>exact ⟨j+1,i,cur,rfl,by go_num,by omega,hi,ħ (HD.out.no HN.out hlt (HX.out▸HQ.out)),ħ (HC.out.up hb2),hbB2⟩)))
      · obtain rfl:j=n:=by omega
        have hO3:wj.ownsRow B 3 1 (.slice (some ⟨gv,0,none⟩) j c) j (cur.map (Value.int .i64)):=by have:=HC.out;unfold aE at this;rw [HD.out.len] at this;exact this
        obtain ⟨w3,hrun,hcut,hb3⟩:=Dz (cc:=c-i) hO3 hi 0;have hci:¬(c=i):=by omega
        have hij:=HD.out.hij
        have hcutl:jL L l=cur.take i:=by
         have:=HD.out.kept;rw [show l.take j=l from List.take_of_length_le (by rw [HN.out];exact Nat.le_refl _)] at this;exact this.symm
        have hcl:(jL L l).length=i:=by rw [hcutl,List.length_take,HD.out.len];omega
        have hfin:aE w3 B (.slice (some ⟨gv,0,none⟩) i c) (jL L l):=by
         unfold aE;rw [hcl,hcutl,List.map_take];exact hcut
        have HFIN:=ħ hfin;clear hcut hcutl hcl hfin hO3;go_wp2_with fail
        go_ret
        exact ⟨_,rfl,HFIN.out,hbB1.trans (hbw.trans hb3)⟩
def jH (D:aD) (l:List Int):aD:={D with re:=jL l D.re}
theorem Et (P:aF) (D:aD) (A:Option Addr) (n c:Nat) (l:List Int) (w:World) (h:bG w P D) (hl:aL w A n l) (hn:n≤1000000) (hr:D.re.length≤1000000) :
 Calls prog 103 #[P.val D,.slice A n c] w fun e w'=>∃s:SlP,e=.returned (aF.val ⟨P.op,P.wa,P.he,s⟩ (jH D l))∧aE w' w.heap.size s.v (jL l D.re)∧Below w w w':=by
 have H:=ħ h;have HL:=ħ hl;have HRE:Hid (aL w P.re.A P.re.n D.re):=ħ h.re;have hrn:P.re.n≤1000000:=by have e:=h.re.1;show P.re.n≤_;have e2:D.re.length=P.re.n:=e;omega
 have HR:=ħ hr;clear h hl hr;show Calls prog 103 #[.agg (cW D P),.slice A n c] w _;go_enter func103,ntmps103
 go_wp2_with fail
 have hX1:Blk (((w.alloc (.cells (cW D P) 27)).alloc (.cells #[.slice A n c] 25)).alloc (.cells cZ 27)) w.heap.size 27 (cW D P):=(Blk.new w 27 (cW D P)).up (aJ)
 have hX2:Blk (((w.alloc (.cells (cW D P) 27)).alloc (.cells #[.slice A n c] 25)).alloc (.cells cZ 27)) (w.heap.size+1) 25 [.slice A n c]:=by
  have:=(Blk.new (w.alloc (.cells (cW D P) 27)) 25 [.slice A n c]).up (w':=(((w.alloc (.cells (cW D P) 27)).alloc (.cells #[.slice A n c] 25)).alloc (.cells cZ 27))) (aJ);simpa using this
 have hX3:Blk (((w.alloc (.cells (cW D P) 27)).alloc (.cells #[.slice A n c] 25)).alloc (.cells cZ 27)) (w.heap.size+2) 27 cZ:=by
  have:=Blk.new ((w.alloc (.cells (cW D P) 27)).alloc (.cells #[.slice A n c] 25)) 27 cZ;simpa using this
 have hbX:Below w w (((w.alloc (.cells (cW D P) 27)).alloc (.cells #[.slice A n c] 25)).alloc (.cells cZ 27)):=aJ;generalize (((w.alloc (.cells (cW D P) 27)).alloc (.cells #[.slice A n c] 25)).alloc (.cells cZ 27))=X at *;have HX1:=ħ hX1;have HX2:=ħ hX2;have HX3:=ħ hX3;clear hX1 hX2 hX3;refine (jT P.re.A P.re.n P.re.c D.re _ (HRE.out.up hbX) y2).mono ?_;rintro e w1 ⟨v1,rfl,ho1,hb1⟩;have hl3:=HX3.out.lt;have hl1:=hb1.size;have HO1:=ħ (ho1.mono (B':=w.heap.size+3) y2);have hY1:=HX1.out.up hb1;have hY2:=HX2.out.up hb1;have hY3:=HX3.out.up hb1;have hbY:=aA hbX hb1;have g0:=hY2.box.2 0 _ rfl;have l2:=hY2.lt;have HY1:=ħ hY1;have HY3:=ħ hY3;clear hY1 hY2 hY3 HX1 HX2 HX3 ho1 hb1 hbX;go_wp2_with fail
 refine (uJ v1 D.re (w.heap.size+3) (w.heap.size+1) A n c l _ HO1.out (Nat.le_trans HR.out y5) g0 y2 y2 (fun Y hY=>HL.out.up (hbY.trans (hY.mono y2)))).mono ?_;rintro e w2 ⟨u,rfl,hu,hb2⟩;obtain ⟨sA,sc,e2,_,_⟩:=hu.ints (Nat.le_trans (Dl _ _) (Nat.le_trans HR.out y5));refine mn ((jL l D.re).length) fun sn hsn=>?_;rw [hsn] at e2;subst e2;have HO2:=ħ hu;have hB1:=HY1.out.below hb2 y2;have hB3:=HY3.out.below hb2 y2;have m1:=hB1.lt;have m3:=hB3.lt;have f1:=hB1.frozen;have f3:=hB3.frozen;obtain ⟨b_0,b_1,b_2,b_3,b_4,b_5,b_6,b_7,b_8⟩:=bx9 hB1.box;obtain ⟨c_0,c_1,c_2,c_3,c_4,c_5,c_6,c_7,c_8⟩:=bx9 hB3.box;have hbe:Below w w w2:=hbY.trans (hb2.mono y2);have HBE:=ħ hbe;clear hu hsn hB1 hB3 HY1 HY3 g0 l2 hl3 hl1 hbY hb2 hbe;go_wp2_with fail
 exact bodyPost_ret (v:=.agg #[D.id,D.nodes,D.next,P.op,D.age,D.clock,P.wa,P.he,.slice sA sn sc]) (by simp [results,results103,go_sem, *]) rfl ⟨⟨sA,sn,sc⟩,rfl,((((((((((HO2.out.set (p:=⟨w,8,none⟩) (by show w.heap.size<_;omega) (.slice sA sn sc)).set (p:=⟨w.heap.size+2,0,none⟩) y36 (.int .i64 D.id)).set (p:=⟨w.heap.size+2,1,none⟩) y36 (.int .i64 D.nodes)).set (p:=⟨w.heap.size+2,2,none⟩) y36 (.int .i64 D.next)).set (p:=⟨w.heap.size+2,3,none⟩) y36 (.slice P.op.A P.op.n P.op.c)).set (p:=⟨w.heap.size+2,4,none⟩) y36 (.int .i64 D.age)).set (p:=⟨w.heap.size+2,5,none⟩) y36 (.int .i64 D.clock)).set (p:=⟨w.heap.size+2,6,none⟩) y36 (.slice P.wa.A P.wa.n P.wa.c)).set (p:=⟨w.heap.size+2,7,none⟩) y36 (.slice P.he.A P.he.n P.he.c)).set (p:=⟨w.heap.size+2,8,none⟩) y36 (.slice sA sn sc)).mono y2,y14⟩
theorem zN (P:aF) (D:aD) (A:Option Addr) (n c:Nat) (l:List Int) (z:Bool) (w:World) (h:bG w P D) (hs:dY D) (hz:dZ D=z) (hl:aL w A n l) (hn:n≤1000000) (hr:D.re.length≤1000000) :
 Calls prog 57 #[P.val D,.slice A n c] w fun e w'=>(if z=true then ∃P',e=.returned (.tuple #[aF.val P' (jH D l),z0])∧aX w' w.heap.size P' (jH D l) else e=.returned (.tuple #[jF,.int .i64 1]))∧Below w w w':=by
 have H:=ħ h;have HS:=ħ hs;have HZ:=ħ hz;have HL:=ħ hl;have HR:=ħ hr;clear h hs hz hl hr;show Calls prog 57 #[.agg (cW D P),.slice A n c] w _;go_enter func57,ntmps57
 go_wp2_with fail
 have hX1:Blk ((w.alloc (.cells (cW D P) 27)).alloc (.cells cZ 27)) w.heap.size 27 (cW D P):=(Blk.new w 27 (cW D P)).up (aJ)
 have hX3:Blk ((w.alloc (.cells (cW D P) 27)).alloc (.cells cZ 27)) (w.heap.size+1) 27 cZ:=by
  have:=Blk.new (w.alloc (.cells (cW D P) 27)) 27 cZ;simpa using this
 have hbX:Below w w ((w.alloc (.cells (cW D P) 27)).alloc (.cells cZ 27)):=aJ;generalize ((w.alloc (.cells (cW D P) 27)).alloc (.cells cZ 27))=X at *;have HX1:=ħ hX1;have HX3:=ħ hX3;clear hX1 hX3;refine (dK P D z _ (H.out.up hbX) HZ.out).mono ?_;rintro e w1 ⟨rfl,hb1⟩;have hY1:=HX1.out.up hb1;have hY3:=HX3.out.up hb1;have hbY:=aA hbX hb1;have l1:=hY1.lt;have l3:=hY3.lt;have f3:=hY3.frozen;obtain ⟨a_0,a_1,a_2,a_3,a_4,a_5,a_6,a_7,a_8⟩:=bx9 hY1.box;obtain ⟨c_0,c_1,c_2,c_3,c_4,c_5,c_6,c_7,c_8⟩:=bx9 hY3.box;have HY3:=ħ hY3;clear hY1 hY3 HX1 HX3 hb1 hbX;cases z
 · go_wp2_with fail
   exact bodyPost_ret (v:=.tuple #[.agg cZ,.int .i64 1]) (by simp [results,results57,go_sem, *]) rfl ⟨rfl,aI⟩
 · clear c_0 c_1 c_2 c_3 c_4 c_5 c_6 c_7 c_8;go_wp2_with fail
   refine (gU P D _ (H.out.up hbY) HS.out).mono ?_;rintro e w3 ⟨⟨⟨oA2,on2,oc2⟩,⟨tA2,tn2,tc2⟩,⟨eA2,en2,ec2⟩,⟨rA2,rn2,rc2⟩⟩,he3,hO3,_,hb3⟩;simp only [aF.val] at he3;subst he3;have HO3:=ħ (hO3.mono (B':=w.heap.size+2) y2);have HV3:=ħ (HY3.out.up hb3);have hbV:=aA hbY hb3;have HBV:=ħ hbV;clear hO3 HY3 a_0 a_1 a_2 a_3 a_4 a_5 a_6 a_7 a_8 l1 l3 f3;go_wp2_with (go_at_call 103;refine (Et ⟨⟨oA2,on2,oc2⟩,⟨tA2,tn2,tc2⟩,⟨eA2,en2,ec2⟩,⟨rA2,rn2,rc2⟩⟩ D A n c l _ (HO3.out.work HS.out) (HL.out.up hbV) hn HR.out).mono ?_;rintro e w4 ⟨⟨sA,sn,sc⟩,he4,hoI,hb4⟩;simp only [aF.val,jH] at he4;subst he4;have hU3:=HV3.out.up hb4;have l4:=hU3.lt;have f4:=hU3.frozen;obtain ⟨c_0,c_1,c_2,c_3,c_4,c_5,c_6,c_7,c_8⟩:=bx9 hU3.box;have HU3:=ħ hU3;have HOI:=ħ hoI;clear hU3 hoI)
   have hsv:=HBV.out.size;have lv:=HV3.out.lt;have hW4:aX w4 (w.heap.size+2) ⟨⟨oA2,on2,oc2⟩,⟨tA2,tn2,tc2⟩,⟨eA2,en2,ec2⟩,⟨sA,sn,sc⟩⟩ (jH D l):=⟨HO3.out.op.up hb4,HO3.out.wa.up hb4,HO3.out.he.up hb4,HOI.out.mono y2⟩;have hW9:=(hW4.low9 (g:=w.heap.size+1) y2 (.int .i64 D.id) (.int .i64 D.nodes) (.int .i64 D.next) (.slice oA2 on2 oc2) (.int .i64 D.age) (.int .i64 D.clock) (.slice tA2 tn2 tc2) (.slice eA2 en2 ec2) (.slice sA sn sc)).mono (B':=w.heap.size) y2;have HW9:=ħ hW9;clear hW4 hW9;go_wp2_with fail
   exact bodyPost_ret (v:=.tuple #[.agg (cV D oA2 on2 oc2 tA2 tn2 tc2 eA2 en2 ec2 sA sn sc),z0]) (by simp [results,results57,go_sem, *]) rfl ⟨⟨⟨⟨oA2,on2,oc2⟩,⟨tA2,tn2,tc2⟩,⟨eA2,en2,ec2⟩,⟨sA,sn,sc⟩⟩,rfl,HW9.out⟩,aI⟩
theorem JK {ops:Array Oper} {o:Oper} {a:Act} {w:World} {K:Act→World→Prop} {Q:Exit→Act→World→Prop} {E:Prop}
 (hg:o.guard=none) (s x:Operand) (ho:o.op=.call {callee:=.builtin .append,args:=#[s,x],argTypes:=#[25,25]}) (hty:o.type=25)
 (B:Nat) (v:Value) (l:List Int) (hs:a.eval s=v) (hown:aE w B v l) (g:Nat) (y:Int) (hx:a.eval x=.slice (some ⟨g,0,none⟩) 1 1) (hc:w.cell? ⟨g,0,none⟩=some (.int .i64 y))
 (hlen:l.length≤900000000) (hB:B≤w.heap.size)
 (h:∀v' w',aE w' B v' (l ++ [y])→w.grownBy w' v.ownBlock→Below B w w'→(v'.ownBlock=v.ownBlock∨v'.ownBlock=some w.heap.size)→K (a.put o.dst v') w') :
 if Region.wanted o (yielded ops a.tmps)=true then Oper.wp prog o a w K Q else E:=by
 have hw:Region.wanted o (yielded ops a.tmps)=true:=by simp [Region.wanted,hg]
 rw [if_pos hw]
 obtain ⟨v',w',hrun,h2,h3,h4,h5⟩:=kC w B v l.length (l.map (Value.int .i64)) hown g 0 1 1 [y] rfl
  (fun j u hj=>by cases j with
   | zero=>simp at hj;subst hj;simpa using hc
   | succ j=>simp at hj) y16 y2 hB
 have hown':aE w' B v' (l ++ [y]):=by unfold aE;simpa using h2
 exact Lib.wp_append_run w s x _ _ ho v _ hs hx v' w' y35 (h v' w' hown' h3 h4 h5)
theorem Ek (P:aF) (D:aD) (A:Option Addr) (n c:Nat) (l:List Int) (w:World) (h:bG w P D) (hl:aL w A n l) (hn:n≤1000000) (hr:D.re.length≤1000000) (hs:dY D) :
 Calls prog 56 #[P.val D,.slice A n c] w fun e w'=>∃P',e=.returned (aF.val P' (jH D l))∧aX w' w.heap.size P' (jH D l)∧Below w w w':=by
 have H:=ħ h;obtain ⟨⟨oA,on,oc⟩,⟨tA,tn,tc⟩,⟨eA,en,ec⟩,⟨rA,rn,rc⟩⟩:=P;have HS0:=ħ hs;have HL:=ħ hl;have HRE:Hid (aL w rA rn D.re):=ħ h.re;have HLN:Hid (D.re.length=rn):=ħ h.re.1;have hrn:rn≤1000000:=by rw [←HLN.out];exact hr
 clear h hl hr hs;show Calls prog 56 #[.agg (cV D oA on oc tA tn tc eA en ec rA rn rc),.slice A n c] w _;go_enter func56,ntmps56
 go_wp2_with fail
 have hX1:Blk ((w.alloc (.cells (cV D oA on oc tA tn tc eA en ec rA rn rc) 27)).alloc (.cells cZ 27)) w.heap.size 27 (cV D oA on oc tA tn tc eA en ec rA rn rc):=(Blk.new w 27 (cV D oA on oc tA tn tc eA en ec rA rn rc)).up y1
 have hX3:Blk ((w.alloc (.cells (cV D oA on oc tA tn tc eA en ec rA rn rc) 27)).alloc (.cells cZ 27)) (w.heap.size+1) 27 cZ:=by
  have:=Blk.new (w.alloc (.cells (cV D oA on oc tA tn tc eA en ec rA rn rc) 27)) 27 cZ;simpa using this
 have hbX:Below w w ((w.alloc (.cells (cV D oA on oc tA tn tc eA en ec rA rn rc) 27)).alloc (.cells cZ 27)):=y0;generalize ((w.alloc (.cells (cV D oA on oc tA tn tc eA en ec rA rn rc) 27)).alloc (.cells cZ 27))=X at *;have HX1:=ħ hX1;have HX3:=ħ hX3;clear hX1 hX3;refine (bK ⟨⟨oA,on,oc⟩,⟨tA,tn,tc⟩,⟨eA,en,ec⟩,⟨rA,rn,rc⟩⟩ D _ (H.out.up hbX) HS0.out).mono ?_;rintro e w1 ⟨⟨⟨oA2,on2,oc2⟩,⟨tA2,tn2,tc2⟩,⟨eA2,en2,ec2⟩,⟨rA2,rn2,rc2⟩⟩,he1,hO1,hb1⟩;simp only [aF.val] at he1;subst he1;have hb0:Below w1 w1 (w1.alloc (.cells (cV D oA2 on2 oc2 tA2 tn2 tc2 eA2 en2 ec2 none 0 0) 27)):=y0;have HX:Hid (Blk (w1.alloc (.cells (cV D oA2 on2 oc2 tA2 tn2 tc2 eA2 en2 ec2 none 0 0) 27)) w1.heap.size 27 (cV D oA2 on2 oc2 tA2 tn2 tc2 eA2 en2 ec2 none 0 0)):=ħ (Blk.new w1 27 (cV D oA2 on2 oc2 tA2 tn2 tc2 eA2 en2 ec2 none 0 0));have HY1:=ħ ((HX1.out.up hb1).up hb0);have HY3:=ħ ((HX3.out.up hb1).up hb0);have hsz1:w.heap.size+2≤w1.heap.size:=by have:=(HX3.out.up hb1).lt;omega
 have HO1:=ħ ((hO1.mono (B':=w.heap.size+2) (by have:=HX3.out.lt;omega)).up hb0);have hbY:=aA (aA hbX hb1) hb0;go_wp2_with fail
 refine nm w1.heap.size fun gx hgx=>?_;refine nm ((w1.alloc (.cells (cV D oA2 on2 oc2 tA2 tn2 tc2 eA2 en2 ec2 none 0 0) 27))) fun Y hY=>?_;rw [←hY,← hgx] at HX ⊢;rw [←hY] at HY1 HY3 HO1 hbY;rw [←hgx] at hsz1;clear hY hgx HX1 HX3 hO1 hb1 hb0 hbX;have hgxY:=HX.out.lt;have hwY:w.heap.size<gx:=by omega
 go_loopw [6] (fun ix wr=>∃(k:Nat) (fA:Option Addr) (fn fc:Nat),k≤rn∧ix=.int .i64 k∧Hid (aE wr Y.heap.size (.slice fA fn fc) (jL l (D.re.take k)))∧Hid (Blk wr gx 27 (cV D oA2 on2 oc2 tA2 tn2 tc2 eA2 en2 ec2 fA fn fc))∧But Y.heap.size gx Y wr) (fun ix _=>rn-(intOf ix).toNat)
 case atStart=>exact ⟨0,none,0,0,Nat.zero_le _,rfl,ħ (aE.nil _ _),HX,But.refl _ _ _⟩
 case round=>
  obtain ⟨k,fA,fn,fc,hk,rfl,HF,HG,hbut⟩:=hrel
  (obtain ⟨wk,hwk⟩:∃x,x=wr:=⟨_,rfl⟩);subst hwk
  have hbW:Below w w wk:=hbY.trans ((hbut.below (Nat.le_of_lt hgxY)).mono y2);have HB:=ħ (But.blk hbut HY1.out HY1.out.lt y2);have hszk:=hbut.size;have lb:=HB.out.lt;obtain ⟨a_0,a_1,a_2,a_3,a_4,a_5,a_6,a_7,a_8⟩:=bx9 HB.out.box;by_cases hlt:k<rn
  · obtain ⟨b,off,rfl,hb,hc⟩:=HRE.out.2.2 y2;have hck:=(hbW.cell (p:=⟨b,off+k,none⟩) hb).trans (hc k hlt);have hbl:b<wk.heap.size:=Nat.lt_of_lt_of_le hb hbW.size;refine mn (nth D.re k) fun x hx=>?_;rw [hx] at hck;refine mn (cQ l x) fun y hy=>?_;have hI:=D5 l x y hy;have HX2:=ħ hx;have HY:=ħ hy;clear hc hx hy;cases y
    · have hs:jL l (D.re.take (k+1))=jL l (D.re.take k) ++ [x]:=by rw [Ba (by rw [HLN.out];exact hlt) (by rw [HX2.out];exact HY.out),HX2.out]
      have HS:=ħ hs;have hl0:(jL l (D.re.take k)).length≤1000000:=by have h1:=Dl l (D.re.take k);have h2:(D.re.take k).length≤k:=y34;omega
      refine mn (jL l (D.re.take k)) fun acc hacc=>?_;rw [hacc] at HF hl0 HS;have hlen:acc.length≤900000000:=by omega
      clear hs hacc;obtain ⟨S,hSd⟩:∃S:World→Prop,S=fun Q=>Q.cell? ⟨b,off+k,none⟩=some (.int .i64 x)∧Q.cell? ⟨w,8,none⟩=some (.slice (some ⟨b,off,none⟩) rn rc):=⟨_,rfl⟩;have hS1:∀Q,S Q→Q.cell? ⟨b,off+k,none⟩=some (.int .i64 x):=fun Q h=>by rw [hSd] at h;exact h.1
      have hS2:∀Q,S Q→Q.cell? ⟨w,8,none⟩=some (.slice (some ⟨b,off,none⟩) rn rc):=fun Q h=>by rw [hSd] at h;exact h.2
      have hS9:∀Q,But Y.heap.size gx Y Q→S Q:=fun Q hQ=>by
       rw [hSd];have hbQ:Below w w Q:=hbY.trans ((hQ.below (Nat.le_of_lt hgxY)).mono y2);exact ⟨(hbQ.cell (p:=⟨b,off+k,none⟩) hb).trans ((hbW.cell (p:=⟨b,off+k,none⟩) hb).symm.trans hck),(But.blk hQ HY1.out HY1.out.lt y2).box.2 8 _ rfl⟩
      have hS0:∀Q,Below wk wk Q→S Q:=fun Q hQ=>hS9 Q (hbut.trans (But.of_below (hQ.mono hszk)));have hc8:∀Q,Below wk wk Q→Q.cell? ⟨gx,8,none⟩=some (.slice fA fn fc):=fun Q hQ=>(HG.out.up hQ).box.2 8 _ rfl;have hdr:=bdr wk;clear hSd;go_upto_region 7 with (go_at_call 70;refine (eT A n c l x _ (HL.out.up hbW)).mono ?_;rintro e w' ⟨rfl,rfl⟩)
      clear hck a_0 a_1 a_2 a_3 a_4 a_5 a_6 a_7 a_8;refine wp_region_held_drew (S:=S) y8 (hS0 _ hdr) (fun hHeld=>?_);have hZ:=hHeld;generalize wk.drew=Z at *;refine tk 0 25 ?_;refine tk 2 27 ?_;refine tq 3 28 hS2 ?_;refine tk 4 29 ?_;refine tk 5 30 ?_;refine tq 6 31 hS1 ?_;refine ry2 1 7 (fun K hK=>?_) fun K hK=>?_
      · skip
        have q9:=hc8 _ (hdr);go_simp;clear q9;refine hkq hK (hS0 _ (hdr)) fun hHeld=>?_;clear hK K;refine ry 7 fun K hK=>?_;go_simp;refine nm Z.heap.size fun NB hNB=>?_;obtain ⟨ZB,hZB⟩:∃Zq:World,Zq=Z.alloc (.cells #[x] 3):=⟨_,rfl⟩;rw [←hNB,← hZB];have hkB:bX ZB NB [x]:=by rw [hZB,hNB];exact bX.new _ [x] 3
        have hbB:Below Z Z ZB:=by rw [hZB];exact aB (Below.refl _ _)
        have hbB2:=aA (hdr) hbB;clear hNB hZB;refine hkq hK (hS0 _ hbB2) fun hHeld=>?_;clear hK K;refine ry 8 fun K hK=>?_;refine JK rfl (.tmp 26) (.tmp 32) rfl rfl Y.heap.size (.slice fA fn fc) acc y9 (HF.out.up hbB2) NB x y9 (hkB.2 0 _ rfl) hlen (Nat.le_trans hszk hbB2.size) ?_;intro v7 w7 hown7 hg7 hb7 hat7;obtain ⟨A7,c7,e7,_⟩:=hown7.ints y13;refine mn ((acc ++ [x]).length) fun n7 hn7=>?_;rw [hn7] at e7;subst e7;have hbut7:=hbut.trans ((But.of_below (hbB2.mono hszk)).trans (But.of_below hb7));refine hkq hK (hS9 _ hbut7) fun hHeld=>?_;clear hK K;refine tk 9 34 ?_;refine ry 10 fun K hK=>?_;have hG7:Blk w7 gx 27 (cV D oA2 on2 oc2 tA2 tn2 tc2 eA2 en2 ec2 fA fn fc):=(HG.out.up hbB2).below hb7 hgxY;have qf:=hG7.frozen;have ql:=hG7.lt;have q9:=hG7.box.2 8 _ rfl;go_simp;clear qf ql q9;have hG8:=hG7.set_ 8 (.slice A7 n7 c7);have hO8:=aR (show World.ownsRow _ Y.heap.size 3 1 _ _ _ from hown7) (aC.setg (o:=8) (u:=.slice A7 n7 c7) hG7) y5;refine hkq hK (hS9 _ hbut7.setg) fun hHeld=>?_;clear hK K;refine wz ?_;have HG8:=ħ hG8;have HO8:Hid (aE _ _ _ _):=ħ hO8;have hbut8:=hbut7.setg (o:=8) (u:=.slice A7 n7 c7);clear hG8 hO8 hG7 hown7 hg7 hb7 hat7 hbB2 hbB hkB hHeld hZ;go_wp2_with fail
        (refine rnd ?_;exact ⟨k+1,A7,n7,c7,by omega,by go_num,by (rw [HS.out];exact HO8),HG8,hbut8⟩)
      · skip
        go_simp;refine nm Z.heap.size fun NB hNB=>?_;obtain ⟨ZB,hZB⟩:∃Zq:World,Zq=Z.alloc (.cells #[x] 3):=⟨_,rfl⟩;rw [←hNB,← hZB];have hkB:bX ZB NB [x]:=by rw [hZB,hNB];exact bX.new _ [x] 3
        have hbB:Below Z Z ZB:=by rw [hZB];exact aB (Below.refl _ _)
        have hbB2:=aA (hdr) hbB;clear hNB hZB;refine hkq hK (hS0 _ hbB2) fun hHeld=>?_;clear hK K;refine ry 1 fun K hK=>?_;have q9:=hc8 _ (hbB2);go_simp;clear q9;refine hkq hK (hS0 _ (hbB2)) fun hHeld=>?_;clear hK K;refine ry 8 fun K hK=>?_;refine JK rfl (.tmp 26) (.tmp 32) rfl rfl Y.heap.size (.slice fA fn fc) acc y9 (HF.out.up hbB2) NB x y9 (hkB.2 0 _ rfl) hlen (Nat.le_trans hszk hbB2.size) ?_;intro v7 w7 hown7 hg7 hb7 hat7;obtain ⟨A7,c7,e7,_⟩:=hown7.ints y13;refine mn ((acc ++ [x]).length) fun n7 hn7=>?_;rw [hn7] at e7;subst e7;have hbut7:=hbut.trans ((But.of_below (hbB2.mono hszk)).trans (But.of_below hb7));refine hkq hK (hS9 _ hbut7) fun hHeld=>?_;clear hK K;refine tk 9 34 ?_;refine ry 10 fun K hK=>?_;have hG7:Blk w7 gx 27 (cV D oA2 on2 oc2 tA2 tn2 tc2 eA2 en2 ec2 fA fn fc):=(HG.out.up hbB2).below hb7 hgxY;have qf:=hG7.frozen;have ql:=hG7.lt;have q9:=hG7.box.2 8 _ rfl;go_simp;clear qf ql q9;have hG8:=hG7.set_ 8 (.slice A7 n7 c7);have hO8:=aR (show World.ownsRow _ Y.heap.size 3 1 _ _ _ from hown7) (aC.setg (o:=8) (u:=.slice A7 n7 c7) hG7) y5;refine hkq hK (hS9 _ hbut7.setg) fun hHeld=>?_;clear hK K;refine wz ?_;have HG8:=ħ hG8;have HO8:Hid (aE _ _ _ _):=ħ hO8;have hbut8:=hbut7.setg (o:=8) (u:=.slice A7 n7 c7);clear hG8 hO8 hG7 hown7 hg7 hb7 hat7 hbB2 hbB hkB hHeld hZ;go_wp2_with fail
        (refine rnd ?_;exact ⟨k+1,A7,n7,c7,by omega,by go_num,by (rw [HS.out];exact HO8),HG8,hbut8⟩)
    · have hs:jL l (D.re.take (k+1))=jL l (D.re.take k):=by rw [Cm (by rw [HLN.out];exact hlt) (by rw [HX2.out];exact HY.out)]
      have HS:=ħ hs;clear hs;go_wp2_with (go_at_call 70;refine (eT A n c l x _ (HL.out.up hbW)).mono ?_;rintro e w' ⟨rfl,rfl⟩)
      (refine rnd ?_;exact ⟨k+1,fA,fn,fc,by omega,by go_num,by (rw [HS.out];exact HF),HG,hbut⟩)
  · obtain rfl:k=rn:=by omega
    have hd1:decide ((k:Int)<(k:Int))=false:=by simp
    have hE:D.re.take k=D.re:=by rw [←HLN.out,List.take_length]
    rw [hE] at HF;have hGR:=But.blk hbut HY3.out HY3.out.lt y2;have hG:=HG.out;have lgx:=hG.lt;have lgr:=hGR.lt;have fgr:=hGR.frozen;obtain ⟨x_0,x_1,x_2,x_3,x_4,x_5,x_6,x_7,x_8⟩:=bx9 hG.box;obtain ⟨z_0,z_1,z_2,z_3,z_4,z_5,z_6,z_7,z_8⟩:=bx9 hGR.box;have hO1:=HO1.out.tk (aC.of_but HX.out hbut) aU;have hO2:aX wk (w.heap.size+2) ⟨⟨oA2,on2,oc2⟩,⟨tA2,tn2,tc2⟩,⟨eA2,en2,ec2⟩,⟨fA,fn,fc⟩⟩ (jH D l):=⟨hO1.op,hO1.wa,hO1.he,HF.out.mono (by have:=HX.out.lt;omega)⟩;have hO9:=(hO2.low9 (g:=w.heap.size+1) y2 (.int .i64 D.id) (.int .i64 D.nodes) (.int .i64 D.next) (.slice oA2 on2 oc2) (.int .i64 D.age) (.int .i64 D.clock) (.slice tA2 tn2 tc2) (.slice eA2 en2 ec2) (.slice fA fn fc)).mono (B':=w.heap.size) y2;have HO9:=ħ hO9;have HBE:=ħ hbW;have hgx1:gx≠w.heap.size+1:=by omega
    have hgx2:¬w.heap.size+1=gx:=by omega
    clear hE hGR hG hO1 hO2 hO9 hbW HF HG hbut;go_wp2_with fail
    exact bodyPost_ret (v:=.agg (cV D oA2 on2 oc2 tA2 tn2 tc2 eA2 en2 ec2 fA fn fc)) (by simp [results,results56,go_sem, *]) rfl ⟨⟨⟨oA2,on2,oc2⟩,⟨tA2,tn2,tc2⟩,⟨eA2,en2,ec2⟩,⟨fA,fn,fc⟩⟩,rfl,HO9.out,y14⟩
end Go.Proofs.YtgfakefcmbpboaaGreat
