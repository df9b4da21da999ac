/- Part 23 of what WorkerExact leans on. No conditions. -/
import Derived.Test.YtgfakefcmbpboaaGreatV22
namespace Go.Proofs.YtgfakefcmbpboaaGreat
set_option linter.all false
set_option maxRecDepth 100000
set_option maxHeartbeats 64000000
open _root_.Go.Proofs.Tryz Go.RowKit
open Tok
theorem kB (g B:Nat) (id:Int) (k1 k2 k3 k4 k5 k6 k7 k8:Value) (uA:Option Addr) (un uc:Nat) (ps:List bQ) (l:List aY) (P:bQ) (M:aY) (w:World) (hg:Blk w g 70 [id,k1,k2,k3,k4,k5,k6,k7,k8,.slice uA un uc]) (hgB:g<B) (hB:B≤w.heap.size) (ho:aP cT w B (.slice uA un uc) ps l) (hl:l.length≤800000000) (hm:dS w B P M) :
 Calls prog 85 #[.pointer (some ⟨g,0,none⟩),M18 P M] w fun e w'=>∃X A n c,e=.returned (.tuple #[])∧w'=X.setCell ⟨g,9,none⟩ (.slice A n c)∧Below B w X∧eU w X∧aP cT X B (.slice A n c) (ps ++ [P]) (l ++ [Bh M id M.tt]):=by
 obtain ⟨⟨bA,bn,bc⟩,⟨⟨xA,xn,xc⟩,⟨yA,yn,yc⟩⟩,⟨⟨⟨cA,cn,cc⟩,⟨dA,dn,dc⟩⟩,⟨sA,sn,sc⟩⟩,⟨eA,en,ec⟩⟩:=P;have HG:=ħ hg;have HO:=ħ ho;have HM:=ħ hm;have hfg:=hg.frozen;have hgl:=hg.lt;obtain ⟨a_0,a_1,a_2,a_3,a_4,a_5,a_6,a_7,a_8,a_9⟩:=gO hg.box;clear hg ho hm;show Calls prog 85 #[.pointer (some ⟨g,0,none⟩),.agg #[M.ki,M.fr,M.tt,M.di,M.b.au,M.b.n,.slice bA bn bc,M.h.au,M.h.ro,.slice xA xn xc,.slice yA yn yc,M.c.h.au,M.c.h.ro,.slice cA cn cc,.slice dA dn dc,M.c.di,.slice sA sn sc,.slice eA en ec]] w _;go_enter func85,ntmps85
 go_upto_region 2 with fail
 have hX:Blk (w.alloc (.cells #[M.ki,id,M.tt,M.di,M.b.au,M.b.n,.slice bA bn bc,M.h.au,M.h.ro,.slice xA xn xc,.slice yA yn yc,M.c.h.au,M.c.h.ro,.slice cA cn cc,.slice dA dn dc,M.c.di,.slice sA sn sc,.slice eA en ec] 49)) w.heap.size 49 [M.ki,id,M.tt,M.di,M.b.au,M.b.n,.slice bA bn bc,M.h.au,M.h.ro,.slice xA xn xc,.slice yA yn yc,M.c.h.au,M.c.h.ro,.slice cA cn cc,.slice dA dn dc,M.c.di,.slice sA sn sc,.slice eA en ec]:=Blk.new w 49 [M.ki,id,M.tt,M.di,M.b.au,M.b.n,.slice bA bn bc,M.h.au,M.h.ro,.slice xA xn xc,.slice yA yn yc,M.c.h.au,M.c.h.ro,.slice cA cn cc,.slice dA dn dc,M.c.di,.slice sA sn sc,.slice eA en ec];have hbX:Below w w (w.alloc (.cells #[M.ki,id,M.tt,M.di,M.b.au,M.b.n,.slice bA bn bc,M.h.au,M.h.ro,.slice xA xn xc,.slice yA yn yc,M.c.h.au,M.c.h.ro,.slice cA cn cc,.slice dA dn dc,M.c.di,.slice sA sn sc,.slice eA en ec] 49)):=aI;generalize hYe:(w.alloc (.cells #[M.ki,id,M.tt,M.di,M.b.au,M.b.n,.slice bA bn bc,M.h.au,M.h.ro,.slice xA xn xc,.slice yA yn yc,M.c.h.au,M.c.h.ro,.slice cA cn cc,.slice dA dn dc,M.c.di,.slice sA sn sc,.slice eA en ec] 49))=Y at *;clear hYe;have hG:=HG.out.up hbX;have hfY:=hG.frozen;have hgY:=hG.lt;have hxY:=hX.lt;refine nm w.heap.size fun N hN=>?_;rw [←hN] at hX hxY ⊢;have hgN:g<N:=by omega
 have hoN:∀q,(Value.slice uA un uc).ownBlock=some q→q<N:=fun q hq=>by rw [hN];exact (bV HO.out.1 q hq).2
 clear a_0 a_1 a_2 a_3 a_4 a_5 a_6 a_7 a_8 a_9 hfg;have HGY:=ħ hG;have HXY:=ħ hX;have HOY:=ħ (HO.out.up hbX);have HMY:=ħ (HM.out.up hbX);have HSZ:Hid (B≤Y.heap.size):=ħ (Nat.le_trans hB hbX.size);obtain ⟨S,hS⟩:∃S:World→Prop,S=fun Z=>Blk Z N 49 [M.ki,id,M.tt,M.di,M.b.au,M.b.n,.slice bA bn bc,M.h.au,M.h.ro,.slice xA xn xc,.slice yA yn yc,M.c.h.au,M.c.h.ro,.slice cA cn cc,.slice dA dn dc,M.c.di,.slice sA sn sc,.slice eA en ec]:=⟨_,rfl⟩;have hS0:S Y.drew:=by rw [hS];exact hX.up (aM (Below.refl _ _))
 have hS1:∀Z,S Z→Z.rangeAt N 0 [M.ki,id,M.tt,M.di,M.b.au,M.b.n,.slice bA bn bc,M.h.au,M.h.ro,.slice xA xn xc,.slice yA yn yc,M.c.h.au,M.c.h.ro,.slice cA cn cc,.slice dA dn dc,M.c.di,.slice sA sn sc,.slice eA en ec]:=fun Z h=>by rw [hS] at h;exact fun j u hu=>by rw [Nat.zero_add];exact h.box.2 j u hu
 have hS2:∀Z,Below Y Y Z→S Z:=fun Z hZ=>by rw [hS];exact HXY.out.up hZ
 have hS3:∀Z Z',Below Y Y Z→Z.grownBy Z' (Value.slice uA un uc).ownBlock→S Z':=fun Z Z' hZ hg'=>by rw [hS];exact (HXY.out.up hZ).grown2 hg' (fun e=>by have:=hoN _ e;omega)
 have hS4:∀Z o u,S Z→S (Z.setCell ⟨g,o,none⟩ u):=fun Z o u hZ=>by rw [hS] at hZ ⊢;exact hZ.far (p:=⟨g,o,none⟩) (by show N≠g;omega) u
 have hc9:∀Z,Below Y Y Z→Z.cell? ⟨g,9,none⟩=some (.slice uA un uc)∧g<Z.heap.size:=fun Z hZ=>⟨(HGY.out.up hZ).box.2 9 _ rfl,(HGY.out.up hZ).lt⟩;clear hG hX hS;refine wp_region_held_drew (S:=S) y8 hS0 (fun hHeld=>?_);have hbd:=bdr Y;generalize Y.drew=Z at *
 (refine bW 0 (some 10) (v:=?_) rfl rfl ?_ ?_;rotate_left;(focus (intro wq hSw;(try dsimp only at hSw);go_simp;all_goals (with_reducible rfl)));simp only [lz])
 (refine bW 1 (some 11) (v:=?_) rfl rfl ?_ ?_;rotate_left;(focus (intro wq hSw;(try dsimp only at hSw);go_simp;all_goals (with_reducible rfl)));simp only [lz])
 (refine bW 2 (some 12) (v:=?_) rfl rfl ?_ ?_;rotate_left;(focus (intro wq hSw;(try dsimp only at hSw);go_simp;all_goals (with_reducible rfl)));simp only [lz])
 (refine bW 3 (some 13) (v:=?_) rfl rfl ?_ ?_;rotate_left;(focus (intro wq hSw;(try dsimp only at hSw);go_simp;all_goals (with_reducible rfl)));simp only [lz])
 refine ld 5 15 hS1 underlying49 ?_;refine ry2 4 6 (fun K hK=>?_) fun K hK=>?_
 · skip
   obtain ⟨q9,qg⟩:=hc9 _ (hbd);go_simp;refine hK.out _ _ (hS2 _ (hbd)) (fun hHeld=>?_);clear hK K q9 qg;refine sp ?_;refine ry 6 fun K hK=>?_;go_simp;refine hk hK (hS2 _ (aB hbd)) fun hHeld=>?_;clear hK K;have HBX:=ħ (bX.new Z [M.ki,id,M.tt,M.di,M.b.au,M.b.n,.slice bA bn bc,M.h.au,M.h.ro,.slice xA xn xc,.slice yA yn yc,M.c.h.au,M.c.h.ro,.slice cA cn cc,.slice dA dn dc,M.c.di,.slice sA sn sc,.slice eA en ec] 49);have hbZ:Below Y Y (Z.alloc (.cells #[M.ki,id,M.tt,M.di,M.b.au,M.b.n,.slice bA bn bc,M.h.au,M.h.ro,.slice xA xn xc,.slice yA yn yc,M.c.h.au,M.c.h.ro,.slice cA cn cc,.slice dA dn dc,M.c.di,.slice sA sn sc,.slice eA en ec] 49)):=aB hbd;refine ry 7 fun K hK=>?_;refine uF rfl (.tmp 14) (.tmp 16) rfl rfl B (.slice uA un uc) ps l y9 (HOY.out.up hbZ) Z.heap.size (Bh M id M.tt) ⟨⟨bA,bn,bc⟩,⟨⟨xA,xn,xc⟩,⟨yA,yn,yc⟩⟩,⟨⟨⟨cA,cn,cc⟩,⟨dA,dn,dc⟩⟩,⟨sA,sn,sc⟩⟩,⟨eA,en,ec⟩⟩ y9 HBX.out ((HMY.out.up hbZ).say) hl (Nat.le_trans HSZ.out hbZ.size) ?_;intro v5 w5 hown5 hg5 hb5;refine hk hK (hS3 _ _ hbZ hg5) fun hHeld=>?_;clear hK K;obtain ⟨A5,c5,e5,_⟩:=hown5.read;refine mn ((l ++ [Bh M id M.tt]).length) fun n5 hn5=>?_;rw [hn5] at e5;clear hn5;subst e5;have hk5:eU Y w5:=(eU.of_below hbZ).trans (eU.of_grown (HOY.out.up hbZ).1 hg5);have hG5:=hk5 _ _ _ y5 HGY.out;have hs5:=hS3 _ _ hbZ hg5
   (refine bW 8 (some 18) (v:=?_) rfl rfl ?_ ?_;rotate_left;(focus (intro wq hSw;(try dsimp only at hSw);go_simp;all_goals (with_reducible rfl)));simp only [lz])
   (refine bW 9 (some 19) (v:=?_) rfl rfl ?_ ?_;rotate_left;(focus (intro wq hSw;(try dsimp only at hSw);go_simp;all_goals (with_reducible rfl)));simp only [lz])
   refine ry 10 fun K hK=>?_;have hf5:=hG5.frozen;have hl5:=hG5.lt;have q9:=hG5.box.2 9 _ rfl;go_simp;refine hk hK (hS4 _ _ _ hs5) fun hHeld=>?_;clear hK K;refine wz ?_
   go_end0
   exact ⟨w5,A5,n5,c5,rfl,rfl,Below.trans (hbX.mono hB) (Below.trans (hbZ.mono HSZ.out) hb5),(eU.of_below hbX).trans hk5,hown5⟩
 · skip
   go_simp;refine hk hK (hS2 _ (aB hbd)) fun hHeld=>?_;clear hK K;refine ry 4 fun K hK=>?_;obtain ⟨q9,qg⟩:=hc9 (Z.alloc (.cells #[M.ki,id,M.tt,M.di,M.b.au,M.b.n,.slice bA bn bc,M.h.au,M.h.ro,.slice xA xn xc,.slice yA yn yc,M.c.h.au,M.c.h.ro,.slice cA cn cc,.slice dA dn dc,M.c.di,.slice sA sn sc,.slice eA en ec] 49)) (aB hbd);go_simp;refine hK.out _ _ (hS2 (Z.alloc (.cells #[M.ki,id,M.tt,M.di,M.b.au,M.b.n,.slice bA bn bc,M.h.au,M.h.ro,.slice xA xn xc,.slice yA yn yc,M.c.h.au,M.c.h.ro,.slice cA cn cc,.slice dA dn dc,M.c.di,.slice sA sn sc,.slice eA en ec] 49)) (aB hbd)) (fun hHeld=>?_);clear hK K q9 qg;refine sp ?_;have HBX:=ħ (bX.new Z [M.ki,id,M.tt,M.di,M.b.au,M.b.n,.slice bA bn bc,M.h.au,M.h.ro,.slice xA xn xc,.slice yA yn yc,M.c.h.au,M.c.h.ro,.slice cA cn cc,.slice dA dn dc,M.c.di,.slice sA sn sc,.slice eA en ec] 49);have hbZ:Below Y Y (Z.alloc (.cells #[M.ki,id,M.tt,M.di,M.b.au,M.b.n,.slice bA bn bc,M.h.au,M.h.ro,.slice xA xn xc,.slice yA yn yc,M.c.h.au,M.c.h.ro,.slice cA cn cc,.slice dA dn dc,M.c.di,.slice sA sn sc,.slice eA en ec] 49)):=aB hbd;refine ry 7 fun K hK=>?_;refine uF rfl (.tmp 14) (.tmp 16) rfl rfl B (.slice uA un uc) ps l y9 (HOY.out.up hbZ) Z.heap.size (Bh M id M.tt) ⟨⟨bA,bn,bc⟩,⟨⟨xA,xn,xc⟩,⟨yA,yn,yc⟩⟩,⟨⟨⟨cA,cn,cc⟩,⟨dA,dn,dc⟩⟩,⟨sA,sn,sc⟩⟩,⟨eA,en,ec⟩⟩ y9 HBX.out ((HMY.out.up hbZ).say) hl (Nat.le_trans HSZ.out hbZ.size) ?_;intro v5 w5 hown5 hg5 hb5;refine hk hK (hS3 _ _ hbZ hg5) fun hHeld=>?_;clear hK K;obtain ⟨A5,c5,e5,_⟩:=hown5.read;refine mn ((l ++ [Bh M id M.tt]).length) fun n5 hn5=>?_;rw [hn5] at e5;clear hn5;subst e5;have hk5:eU Y w5:=(eU.of_below hbZ).trans (eU.of_grown (HOY.out.up hbZ).1 hg5);have hG5:=hk5 _ _ _ y5 HGY.out;have hs5:=hS3 _ _ hbZ hg5
   (refine bW 8 (some 18) (v:=?_) rfl rfl ?_ ?_;rotate_left;(focus (intro wq hSw;(try dsimp only at hSw);go_simp;all_goals (with_reducible rfl)));simp only [lz])
   (refine bW 9 (some 19) (v:=?_) rfl rfl ?_ ?_;rotate_left;(focus (intro wq hSw;(try dsimp only at hSw);go_simp;all_goals (with_reducible rfl)));simp only [lz])
   refine ry 10 fun K hK=>?_;have hf5:=hG5.frozen;have hl5:=hG5.lt;have q9:=hG5.box.2 9 _ rfl;go_simp;refine hk hK (hS4 _ _ _ hs5) fun hHeld=>?_;clear hK K;refine wz ?_
   go_end0
   exact ⟨w5,A5,n5,c5,rfl,rfl,Below.trans (hbX.mono hB) (Below.trans (hbZ.mono HSZ.out) hb5),(eU.of_below hbX).trans hk5,hown5⟩
noncomputable def fC (l:List bI) (d:Int):Int:=if dL l d=true then (bB l d:Int) else -1
theorem FM {l:List bI} (hs:dQ l) {key:Int} {j:Nat} (hj:j<l.length) (e:(hth l j).di=key):bB l key=j:=
 sG _ l j y2 (fun t ht=>by have:=hs t j ht hj;rw [e] at this;exact this) (fun _=>by show ltI (hth l j).di key=false;rw [e];simp [ltI])
theorem eI (g:Nat) (c0 c1 c2 c3 c4 c5 c6 c8 c9:Value) (eA:Option Addr) (en ec:Nat) (l:List bI) (d:Int) (w:World) (hg:Blk w g 70 [c0,c1,c2,c3,c4,c5,c6,.slice eA en ec,c8,c9]) (hl:dU w eA en l) (hs:dQ l) :
 Calls prog 83 #[.pointer (some ⟨g,0,none⟩),d] w fun e w'=>e=.returned (.int .i64 (fC l d))∧w=w':=by
 have HS:=ħ hs;have HN:Hid (l.length=en):=ħ hl.1;have hnn:en≤9223372036854775807:=hl.2.1;have HL:=ħ hl;have b7:=hg.box.2 7 _ rfl;have lg:=hg.lt;clear hg hl hs;go_enter func83,ntmps83
 go_wp2_with fail
 go_loop [5] (fun iv=>∃k:Nat,k≤en∧iv=.int .i64 k∧Hid (∀j,j<k→(hth l j).di≠d)) (fun iv=>en-(intOf iv).toNat)
 case atStart=>exact ⟨0,Nat.zero_le _,rfl,ħ (fun j hj=>absurd hj y2)⟩
 case round=>
  obtain ⟨k,hk,rfl,HQ⟩:=hrel;by_cases hlt:k<en
  · obtain ⟨b,off,rfl,hb,hc⟩:=HL.out.2.2 y2;obtain ⟨Bq,mq,dq,⟨f0,f1,f2,f3⟩,-⟩:=hc k hlt;clear hc;by_cases hq:(hth l k).di=d
    · have HE:Hid (fC l d=k):=ħ (by
       have h1:dL l d=true:=(tZ HS.out).2 ⟨k,by rw [HN.out];exact hlt,hq⟩;unfold fC;rw [if_pos h1,FM HS.out y18 hq])
      have hd:((hth l k).di == d)=true:=by simpa using hq
      clear hq;go_wp2_with fail
      go_ret
      exact ⟨by (rw [HE.out];rfl),rfl⟩
    · have hd:((hth l k).di == d)=false:=by simpa using hq
      have HE:=ħ hq;clear hq;go_wp2_with fail
      (refine rnd ?_;exact ⟨k+1,by omega,by go_num,ħ (fun j hj=>by (rcases Nat.lt_or_ge j k with h|h;exact HQ.out j h;(obtain rfl:j=k:=by omega);exact HE.out))⟩)
  · obtain rfl:k=en:=by omega
    have HE:Hid (fC l d=-1):=ħ (by
     unfold fC;rw [if_neg];intro h;obtain ⟨j,hj,e⟩:=(tZ HS.out).1 h;exact HQ.out j (by rw [←HN.out];exact hj) e)
    go_wp2_with fail
    go_ret
    exact ⟨by (rw [HE.out];rfl),rfl⟩
theorem rT (w:World) (B:Nat) (v:Value) (n:Nat) (xs:List Value) (hown:w.ownsRow B 101 4 v n xs) (A:Option Addr) (m c:Nat) (e:List Value) (he:iI w A m 4 e) (h1e:∀u∈e,u.oneCell'=true) (hn:n+m≤900000000) (hB:B≤w.heap.size) :
 ∃v' w',(Builtin.append_ #[24,24] 24 #[v,.slice A m c]).run prog w=.ok v' w'∧w'.ownsRow B 101 4 v' (n+m) (xs ++ e)∧w.grownBy w' v.ownBlock∧Below B w w':=by
 rcases Nat.eq_zero_or_pos m with h0|h0
 · subst h0;have e0:e=[]:=List.length_eq_zero_iff.1 (by rw [he.1,Nat.zero_mul]);subst e0;obtain ⟨i0,hi,hz,hz1,hz2⟩:=info_parts mB;refine ⟨v,w,?_,by simpa using hown,World.grownBy.refl _ _,Below.refl _ _⟩;rcases hown.2 with ⟨rfl,_⟩|⟨g,cap,cur,rfl,_,_,hnc,_⟩
   · cases A<;>simp [Builtin.append_,run_underlying underlying24,sizeOf,typeInfo,hi,Builtin.lenOf,Builtin.firstCells,loadCells,loadCellsFrom,storeCells]
   · cases A<;>simp [Builtin.append_,run_underlying underlying24,sizeOf,typeInfo,hi,Builtin.lenOf,Builtin.firstCells,loadCells,loadCellsFrom,hnc,storeCells]
 · obtain ⟨b,off,rfl,hb,hc⟩:=he.2.2 h0;obtain ⟨v',w',hrun,h2,h3,h4,h5⟩:=iZ w B v n xs hown b off m c e he.1 hc h1e y2 hB;exact ⟨v',w',hrun,h2,h3,h4⟩
theorem wK {w:World} {ops:Array Oper} {rest:List Oper} {o:Oper} {a:Act} {Q:Exit→Act→World→Prop} (hgd:o.guard=none) (s x:Operand)
 (ho:o.op=.call {callee:=.builtin .append,args:=#[s,x],argTypes:=#[24,24]}) (hty:o.type=24) (B:Nat) (v:Value) (n:Nat) (xs:List Value) (hs:a.eval s=v) (hown:w.ownsRow B 101 4 v n xs) (A:Option Addr) (m c:Nat) (e:List Value) (hx:a.eval x=.slice A m c)
 (he:iI w A m 4 e) (h1e:∀u∈e,u.oneCell'=true) (hn:n+m≤900000000) (hB:B≤w.heap.size)
 (h:∀v' w',w'.ownsRow B 101 4 v' (n+m) (xs ++ e)→w.grownBy w' v.ownBlock→Below B w w'→wpList prog ops Q rest (a.put o.dst v') w'):wpList prog ops Q (o :: rest) a w:=by
 obtain ⟨v',w',hrun,h2,h3,h4⟩:=rT w B v n xs hown A m c e he h1e hn hB;exact Lib.wpList_append_run w hgd s x _ _ ho _ _ hs hx _ _ y35 (h v' w' h2 h3 h4)
theorem yL {ops:Array Oper} {o:Oper} {a:Act} {w:World} {K:Act→World→Prop} {Q:Exit→Act→World→Prop} {E:Prop} (hgd:o.guard=none) (s x:Operand)
 (ho:o.op=.call {callee:=.builtin .append,args:=#[s,x],argTypes:=#[24,24]}) (hty:o.type=24) (B:Nat) (v:Value) (n:Nat) (xs:List Value) (hs:a.eval s=v) (hown:w.ownsRow B 101 4 v n xs) (A:Option Addr) (m c:Nat) (e:List Value) (hx:a.eval x=.slice A m c)
 (he:iI w A m 4 e) (h1e:∀u∈e,u.oneCell'=true) (hn:n+m≤900000000) (hB:B≤w.heap.size)
 (h:∀v' w',w'.ownsRow B 101 4 v' (n+m) (xs ++ e)→w.grownBy w' v.ownBlock→Below B w w'→K (a.put o.dst v') w'):if Region.wanted o (yielded ops a.tmps)=true then Oper.wp prog o a w K Q else E:=by
 obtain ⟨v',w',hrun,h2,h3,h4⟩:=rT w B v n xs hown A m c e he h1e hn hB;exact uV hgd s x _ _ ho _ _ hs hx y35 (h v' w' h2 h3 h4)
theorem rU (w:World) (B:Nat) (v:Value) (n:Nat) (xs:List Value) (hown:w.ownsRow B 56 2 v n xs) (A:Option Addr) (m c:Nat) (e:List Value) (he:iI w A m 2 e) (h1e:∀u∈e,u.oneCell'=true) (hn:n+m≤900000000) (hB:B≤w.heap.size) :
 ∃v' w',(Builtin.append_ #[23,23] 23 #[v,.slice A m c]).run prog w=.ok v' w'∧w'.ownsRow B 56 2 v' (n+m) (xs ++ e)∧w.grownBy w' v.ownBlock∧Below B w w':=by
 rcases Nat.eq_zero_or_pos m with h0|h0
 · subst h0;have e0:e=[]:=List.length_eq_zero_iff.1 (by rw [he.1,Nat.zero_mul]);subst e0;obtain ⟨i0,hi,hz,hz1,hz2⟩:=info_parts mC;refine ⟨v,w,?_,by simpa using hown,World.grownBy.refl _ _,Below.refl _ _⟩;rcases hown.2 with ⟨rfl,_⟩|⟨g,cap,cur,rfl,_,_,hnc,_⟩
   · cases A<;>simp [Builtin.append_,run_underlying underlying23,sizeOf,typeInfo,hi,Builtin.lenOf,Builtin.firstCells,loadCells,loadCellsFrom,storeCells]
   · cases A<;>simp [Builtin.append_,run_underlying underlying23,sizeOf,typeInfo,hi,Builtin.lenOf,Builtin.firstCells,loadCells,loadCellsFrom,hnc,storeCells]
 · obtain ⟨b,off,rfl,hb,hc⟩:=he.2.2 h0;obtain ⟨v',w',hrun,h2,h3,h4,h5⟩:=jA w B v n xs hown b off m c e he.1 hc h1e y2 hB;exact ⟨v',w',hrun,h2,h3,h4⟩
theorem wL {w:World} {ops:Array Oper} {rest:List Oper} {o:Oper} {a:Act} {Q:Exit→Act→World→Prop} (hgd:o.guard=none) (s x:Operand)
 (ho:o.op=.call {callee:=.builtin .append,args:=#[s,x],argTypes:=#[23,23]}) (hty:o.type=23) (B:Nat) (v:Value) (n:Nat) (xs:List Value) (hs:a.eval s=v) (hown:w.ownsRow B 56 2 v n xs) (A:Option Addr) (m c:Nat) (e:List Value) (hx:a.eval x=.slice A m c)
 (he:iI w A m 2 e) (h1e:∀u∈e,u.oneCell'=true) (hn:n+m≤900000000) (hB:B≤w.heap.size)
 (h:∀v' w',w'.ownsRow B 56 2 v' (n+m) (xs ++ e)→w.grownBy w' v.ownBlock→Below B w w'→wpList prog ops Q rest (a.put o.dst v') w'):wpList prog ops Q (o :: rest) a w:=by
 obtain ⟨v',w',hrun,h2,h3,h4⟩:=rU w B v n xs hown A m c e he h1e hn hB;exact Lib.wpList_append_run w hgd s x _ _ ho _ _ hs hx _ _ y35 (h v' w' h2 h3 h4)
theorem jN {ops:Array Oper} {o:Oper} {a:Act} {w:World} {K:Act→World→Prop} {Q:Exit→Act→World→Prop} {E:Prop} (hgd:o.guard=none) (s x:Operand)
 (ho:o.op=.call {callee:=.builtin .append,args:=#[s,x],argTypes:=#[23,23]}) (hty:o.type=23) (B:Nat) (v:Value) (n:Nat) (xs:List Value) (hs:a.eval s=v) (hown:w.ownsRow B 56 2 v n xs) (A:Option Addr) (m c:Nat) (e:List Value) (hx:a.eval x=.slice A m c)
 (he:iI w A m 2 e) (h1e:∀u∈e,u.oneCell'=true) (hn:n+m≤900000000) (hB:B≤w.heap.size)
 (h:∀v' w',w'.ownsRow B 56 2 v' (n+m) (xs ++ e)→w.grownBy w' v.ownBlock→Below B w w'→K (a.put o.dst v') w'):if Region.wanted o (yielded ops a.tmps)=true then Oper.wp prog o a w K Q else E:=by
 obtain ⟨v',w',hrun,h2,h3,h4⟩:=rU w B v n xs hown A m c e he h1e hn hB;exact uV hgd s x _ _ ho _ _ hs hx y35 (h v' w' h2 h3 h4)
theorem Fz {α:Type} [Inhabited α] (p:α→Bool) (l:List α) {t:Nat} (h:t<cnt p l):p (l.getD t default)=true:=by
 have hl:=gD p l;refine wR p l _ ?_;rw [List.mem_take_iff_getElem];exact ⟨t,by omega,by simp [show t<l.length by omega]⟩
theorem dU.takeN {w:World} {A:Option Addr} {n k:Nat} {l:List bI} (h:dU w A n l) (hk:k≤n):dU w A k (l.take k):=by
 obtain ⟨h1,h2,h3⟩:=h;refine ⟨by rw [List.length_take];omega,by omega,fun h0=>?_⟩;obtain ⟨b,off,e,hb,hc⟩:=h3 y2;refine ⟨b,off,e,hb,fun j hj=>?_⟩;have e2:hth (l.take k) j=hth l j:=by simp [hth,hj]
 rw [e2];exact hc j y2
theorem eC.takeN {w:World} {A:Option Addr} {n k:Nat} {l:List aV} (h:eC w A n l) (hk:k≤n):eC w A k (l.take k):=by
 obtain ⟨h1,h2,h3⟩:=h;refine ⟨by rw [List.length_take];omega,by omega,fun h0=>?_⟩;obtain ⟨b,off,e,hb,hc⟩:=h3 y2;refine ⟨b,off,e,hb,fun j hj=>?_⟩;have e2:wth (l.take k) j=wth l j:=by simp [wth,hj]
 rw [e2];exact hc j y2
theorem iI.dropK {w:World} {b n k i:Nat} {xs:List Value} (h:iI w (some ⟨b,0,none⟩) n k xs) (hi:i≤n):iI w (some ⟨b,i*k,none⟩) (n-i) k (xs.drop (i*k)):=by
 obtain ⟨h1,h2,h3⟩:=h;refine ⟨by rw [List.length_drop,h1,Nat.sub_mul],by omega,fun h0=>?_⟩;obtain ⟨b',off,e,hb,hc⟩:=h3 y2;injection e with e;injection e with e1 e2 e3;subst e1;subst e2;exact ⟨b,i*k,rfl,hb,fun j u hu=>by (have:=hc (i*k+j) u (by rw [List.getElem?_drop] at hu;exact hu));rw [Nat.zero_add] at this;exact this⟩
theorem iI.nilA {w:World} (A:Option Addr) (k:Nat):iI w A 0 k []:=⟨by simp,by omega,fun h=>absurd h y2⟩
theorem CU {α β:Type} [Inhabited α] [Inhabited β] (T:rQ α β) {w:World} {B:Nat} {l:List α} {ps:List β} (hps:ps.length=l.length) (h:∀j,j<l.length→T.inner w B (ps.getD j default) (l.getD j default)):∀u∈aO T l ps,u.oneCell'=true:=by
 intro u hu;obtain ⟨i,hi,rfl⟩:=List.getElem_of_mem hu;rw [gP T hps] at hi;have hk:=T.k0;have hj:i / T.k<l.length:=Nat.div_lt_of_lt_mul (by rw [Nat.mul_comm];exact hi);have e:=cO T hps hj (r:=i % T.k) (Nat.mod_lt _ hk);rw [Nat.div_add_mod'] at e;have e2:(aO T l ps)[i]? =some ((aO T l ps)[i]'(by rw [gP T hps];exact hi)):=List.getElem?_eq_getElem _;rw [e2] at e;exact T.one (h _ hj) _ (List.mem_of_getElem? e.symm)
theorem oD {α β:Type} [Inhabited α] [Inhabited β] (T:rQ α β) {w:World} {B lo:Nat} {v:Value} {qs ps:List β} {p:β} {l:List α} {x:α} (hq:qs.length=lo) (hlo:lo≤l.length) (hps:ps.length=l.length) (hrow:w.ownsRow B T.t T.k v (lo+1+(l.length-lo)) ((aO T (l.take lo) qs ++ T.enc x p) ++ (aO T l ps).drop (lo*T.k)))
 (h1:∀j,j<lo→T.inner w B (qs.getD j default) (l.getD j default)) (h2:T.inner w B p x) (h3:∀j,lo≤j→j<l.length→T.inner w B (ps.getD j default) (l.getD j default)):aP T w B v (qs ++ p :: ps.drop lo) (bM l lo x):=by
 have ht:(l.take lo).length=lo:=by rw [List.length_take];omega
 have e1:aO T (bM l lo x) (qs ++ p :: ps.drop lo)=(aO T (l.take lo) qs ++ T.enc x p) ++ (aO T l ps).drop (lo*T.k):=by
  unfold bM;rw [jK T (by rw [ht];exact hq),← (yZ T hps hlo).2,show x :: l.drop lo=[x] ++ l.drop lo from rfl,show p :: ps.drop lo=[p] ++ ps.drop lo from rfl,jK T (by rfl),List.append_assoc];simp [aO]
 refine ⟨by rw [e1,cP hlo];(have e2:l.length+1=lo+1+(l.length-lo):=by omega);rw [e2];exact hrow,?_,fun j hj=>?_⟩
 · rw [cP hlo,List.length_append,List.length_cons,List.length_drop,hq,hps];omega
 · rw [cP hlo] at hj;unfold bM;rcases Nat.lt_trichotomy j lo with h|h|h
   · have a1:(qs ++ p :: ps.drop lo).getD j default=qs.getD j default:=by simp [List.getElem?_append,hq,h]
     have a2:(l.take lo ++ x :: l.drop lo).getD j default=l.getD j default:=by simp [List.getElem?_append,h,show j<l.length by omega,show j<min lo l.length by omega]
     rw [a1,a2];exact h1 j h
   · subst h
     have a1:(qs ++ p :: ps.drop j).getD j default=p:=by
      simp only [List.getD_eq_getElem?_getD];rw [List.getElem?_append_right y2,hq,Nat.sub_self];rfl
     have a2:(l.take j ++ x :: l.drop j).getD j default=x:=by
      simp only [List.getD_eq_getElem?_getD];rw [List.getElem?_append_right y2,ht,Nat.sub_self];rfl
     rw [a1,a2];exact h2
   · obtain ⟨i,rfl⟩:∃i,j=lo+1+i:=⟨j-lo-1,by omega⟩
     have a1:(qs ++ p :: ps.drop lo).getD (lo+1+i) default=ps.getD (lo+i) default:=by
      simp only [List.getD_eq_getElem?_getD];rw [List.getElem?_append_right y2,hq,show lo+1+i-lo=i+1 by omega,List.getElem?_cons_succ,List.getElem?_drop]
     have a2:(l.take lo ++ x :: l.drop lo).getD (lo+1+i) default=l.getD (lo+i) default:=by
      simp only [List.getD_eq_getElem?_getD];rw [List.getElem?_append_right (by rw [ht];omega),ht,show lo+1+i-lo=i+1 by omega,List.getElem?_cons_succ,List.getElem?_drop]
     rw [a1,a2];exact h3 (lo+i) y2 y2
theorem B1 {w:World} {B k n:Nat} {t:TypeId} {v:Value} {xs:List Value} (h:w.ownsRow B t k v n xs):∃A m c,v=.slice A m c:=by
 rcases eD h with ⟨e,_⟩|⟨g,c,e,_⟩
 · exact ⟨_,_,_,e⟩
 · exact ⟨_,_,_,e⟩
noncomputable def wX:Code:=bF 4 (Tryz.f84.body.getD .skip)
theorem AQ {K1:Act→World→Prop} (g B lo:Nat) (k0 k1 k2 k3 k4 k5 k6 k8 k9:Value) (eA bA:Option Addr) (en ec bn bc:Nat) (l:List bI) (d:Int) (b:bY) (ps:List Value) (w wk:World) {u2 u3 u4 u7 u8 u9 nN lV lW kK kL kM kN lX kO kP kQ kR kS kT kU kV kX kY lB lC lD lE lF lH lI lJ lK mS oM oN oO oP oQ oR oS oT oU oV oW oX oY oZ pB pC pD pE pF pG pH pI pJ pK pL pM mT pN pO pP pQ pR pS:Value}
 (hK1:∀a' w',Code.wp prog (cL wX) (bodyPost prog Tryz.f84 (fun e w'=>∃X A n c,e=.returned (.tuple #[])∧w'=X.setCell ⟨g,7,none⟩ (.slice A n c)∧Below w w X∧bL X B (.slice A n c) (bM l (bB l d) ⟨d,b⟩))) a' w'→K1 a' w')
 (hbw:Below w w wk) (hg:Blk wk g 70 [k0,k1,k2,k3,k4,k5,k6,.slice eA en ec,k8,k9]) (hgw:g<w.heap.size) (hbx:Blk wk w.heap.size 43 [b.au,b.n,.slice bA bn bc]) (hB:B≤w.heap.size) (hT:aP eV w B (.slice eA en ec) ps l) (hs:B9 l) (hb:bZ w bA bn b.tx) (hbn:bn≤800000000) (hlo:bB l d=lo) (hll:l.length<1024) :
 Code.wp prog (dJ wX) (Exit.then K1 (bodyPost prog Tryz.f84 (fun e w'=>∃X A n c,e=.returned (.tuple #[])∧w'=X.setCell ⟨g,7,none⟩ (.slice A n c)∧Below w w X∧bL X B (.slice A n c) (bM l (bB l d) ⟨d,b⟩)))) {tmps:=#[.pointer (some ⟨g,0,none⟩),.int .i64 d,u2,u3,u4,.pointer (some ⟨w,0,none⟩),.int .i64 (lo:Int),u7,u8,u9,nN,lV,lW,kK,kL,kM,kN,lX,kO,kP,kQ,kR,kS,kT,kU,kV,kX,kY,lB,lC,lD,lE,lF,lH,lI,lJ,lK,mS,oM,oN,oO,oP,oQ,oR,oS,oT,oU,oV,oW,oX,oY,oZ,pB,pC,pD,pE,pF,pG,pH,pI,pJ,pK,pL,pM,mT,pN,pO,pP,pQ,pR,pS],defers:=[]} wk:=by
 obtain ⟨A',c',e',hR,hnc,_⟩:=bL.helds ⟨ps,hT⟩ hs;injection e' with e1 e2 e3;rw [←e1,← e2] at hR;have HEN:Hid (l.length=en):=ħ e2.symm
 have hlole:lo≤en:=by
  have:bB l d≤l.length:=gD _ _;rw [hlo,e2.symm] at this;exact this
 have hecn:en≤ec:=by omega
 have hlc:lo≤ec:=by omega
 have henb:en<1024:=by omega
 clear e1 e2 e3 hnc
 have hRV:iI w eA en 4 (aO eV l ps):=by
  obtain ⟨A2,c2,e2,hrv,_⟩:=dC hT.1 y2;injection e2 with e3 e4 e5;rw [HEN.out] at hrv;rw [e3];exact hrv
 have hone:∀u∈aO eV l ps,u.oneCell'=true:=CU eV hT.2.1 (fun j hj=>hT.2.2 j hj);have HON:=ħ hone;have HRV:=ħ hRV;have HR:=ħ hR;have HB:=ħ hb;have HBN:Hid (b.tx.length=bn):=ħ hb.1;have HT:=ħ hT;have HBT:Hid (B9 (l.take lo)):=ħ ⟨by rw [List.length_take];omega,fun x hx=>hs.2 x (List.mem_of_mem_take hx)⟩;have HLO:=ħ hlo;have HLL:Hid (lo≤l.length):=ħ (by rw [HEN.out];exact hlole);have HGK:=ħ hg;have HBK:=ħ hbx;have HBX:Hid (Below wk wk wk):=ħ (Below.refl _ _);have HK1:=ħ hK1;clear hR hRV hone hb hT hs hlo hg hbx hK1 hll;dsimp only [wX,bF,cL,dJ,Tryz.f84,Option.getD];obtain ⟨S,hSd⟩:∃S:World→Prop,S=fun Q=>Q.cell? ⟨g,7,none⟩=some (.slice eA en ec)∧Blk Q w.heap.size 43 [b.au,b.n,.slice bA bn bc]:=⟨_,rfl⟩;have hS7:∀Q,S Q→Q.cell? ⟨g,7,none⟩=some (.slice eA en ec):=fun Q h=>by rw [hSd] at h;exact h.1
 have hSb:∀Q,S Q→Q.rangeAt w.heap.size 0 [b.au,b.n,.slice bA bn bc]:=fun Q h=>by rw [hSd] at h;exact fun j u hu=>by (rw [Nat.zero_add]);exact h.2.box.2 j u hu
 have hS:∀Q,Below wk wk Q→S Q:=fun Q hQ=>by rw [hSd];exact ⟨(HGK.out.up hQ).box.2 7 _ rfl,HBK.out.up hQ⟩
 clear hSd;refine hd hS fun hHeld=>?_;have hbd:=bdr wk;have hZ:=hHeld;generalize wk.drew=Z0 at *;refine tk 0 44 ?_;refine tk 1 45 ?_;refine tk 2 46 ?_;refine tk 3 47 ?_;refine tq 4 48 hS7 ?_;refine tk 5 49 ?_;refine tk 6 50 ?_;refine tk 8 52 ?_;refine ld 9 53 hSb underlying43 ?_;refine ry 7 fun K hK=>?_;go_simp;(go_at_call 28;refine (iX eA lo _ (l.take lo) _ ((HR.out.up (aA hbw (aA HBX.out hbd))).takeN hlole) HBT.out).mono ?_;rintro e w3 ⟨v3,rfl,⟨qs,ho3⟩,hb3⟩)
 have hbd3:=aA hbd hb3;have HO3:=ħ ho3;clear ho3;refine hk hK (hS _ hbd3) fun hHeld=>?_;clear hK K;refine ry 10 fun K hK=>?_;go_simp;(go_at_call 86;refine (eY b bA bn bc _ (HB.out.up (aA hbw (aA HBX.out hbd3))) hbn).mono ?_;rintro e w4 ⟨v4,rfl,ho4,hb4⟩;obtain ⟨A4,c4,rfl,-⟩:=ho4.txs y69;rw [HBN.out] at ho4 ⊢)
 have hbd4:=aA hbd3 hb4;have HO4:=ħ ho4;clear ho4;refine hk hK (hS _ hbd4) fun hHeld=>?_;clear hK K;refine tk 11 55 ?_;refine ry 12 fun K hK=>?_;go_simp;refine nm w4.heap.size fun NB hNB=>?_;obtain ⟨ZB,hZB⟩:∃Zq:World,Zq=w4.alloc (.cells #[d,b.au,b.n,.slice A4 bn c4] 101):=⟨_,rfl⟩;rw [←hNB,← hZB];have hkB:bX ZB NB [d,b.au,b.n,.slice A4 bn c4]:=by rw [hZB,hNB];exact bX.new _ [d,b.au,b.n,.slice A4 bn c4] 101
 have hbB:Below w4 w4 ZB:=by rw [hZB];exact aB (Below.refl _ _)
 have hbd5:=aA hbd4 hbB;clear hNB hZB;refine hk hK (hS _ hbd5) fun hHeld=>?_;clear hK K;refine ry 13 fun K hK=>?_;have hrow3:=bS HO3.out.1 (aA hb4 hbB);rw [List.length_take,Nat.min_eq_left HLL.out] at hrow3;refine yL rfl (.tmp 51) (.tmp 56) rfl rfl Z0.heap.size v3 lo _ y9 hrow3 (some ⟨NB,0,none⟩) 1 1 [d,b.au,b.n,.slice A4 bn c4] y9 ⟨rfl,by omega,fun _=>⟨NB,0,rfl,hkB.1,fun j u hu=>by rw [Nat.zero_add];exact hkB.2 j u hu⟩⟩ y16 y2 (by have:=hb3.size;have:=hb4.size;have:=hbB.size;omega) ?_;intro v7 w7 hown7 hg7 hb7;have hb7k:Below wk wk w7:=hbd5.trans (hb7.mono hbd.size);refine hk hK (hS _ hb7k) fun hHeld=>?_;clear hK K;refine tk 14 7 ?_;refine wz ?_
 have hq3:∀j,j<lo→bD w7 Z0.heap.size (qs.getD j default) (l.getD j default).b.tx:=fun j hj=>by
  have h1:=HO3.out.2.2 j y61;have e1:(l.take lo).getD j default=l.getD j default:=by simp [hj]
  rw [e1] at h1;exact bT (bS (show World.ownsRow _ _ 41 4 _ _ _ from h1) (aA hb4 hbB)) hrow3 y5 hg7
 have hq4:bD w7 Z0.heap.size (.slice A4 bn c4) b.tx:=bT (bS (aZ (show World.ownsRow _ _ 41 4 _ _ _ from HO4.out) hb3.size) hbB) hrow3 y5 hg7;have hql:qs.length=lo:=by have:=HO3.out.2.1;rw [List.length_take,Nat.min_eq_left HLL.out] at this;exact this
 have HQ3:=ħ hq3;have HQ4:=ħ hq4;have HQL:=ħ hql;have HO7:=ħ hown7;have HB7:=ħ hb7k;have hz0:=hbd.size;have HG7:=ħ (HGK.out.up hb7k);have fG:=HG7.out.frozen;have lG:=HG7.out.lt;obtain ⟨a_0,a_1,a_2,a_3,a_4,a_5,a_6,a_7,a_8,a_9⟩:=gO HG7.out.box;have hRV:=(HRV.out.up (aA hbw (aA HBX.out hb7k)));have HRV7:=ħ hRV;have hbe:B≤wk.heap.size:=Nat.le_trans hB (Nat.le_trans hbw.size HBX.out.size);have HZ7:=ħ hb7;clear hq3 hq4 hql hown7 hb7k hRV hrow3 hkB hbB hg7 hb7 hbd5 hbd4 hbd3 hb3 hb4 hS hSb hS7 hHeld hZ;show K1 _ _;apply HK1.out;dsimp only [wX,bF,cL,dJ,Tryz.f84,Option.getD];rcases eD HT.out.1 with ⟨e,h0⟩|⟨ge,ce,e,hge,hce0⟩
 · injection e with e1 e2 e3;subst e1;subst e2;subst e3;have hlo0:lo=0:=by omega
   subst hlo0;have hen0:l.length-0=0:=by have:=HEN.out;omega
   rcases eD HO7.out with ⟨_,h0⟩|⟨g7,c7,e7,hg7B,hc7⟩
   · omega
   · subst e7;have hc8:¬c7<0+1:=by omega
     go_wp2_with fail
     go_end0
     refine ⟨w7,_,_,_,rfl,rfl,aA hbw (aA HBX.out HB7.out),?_⟩;have hps:∀j,0≤j→j<l.length→bD w7 B (ps.getD j default) (l.getD j default).b.tx:=fun j _ hj=>absurd hj y2;rw [HLO.out];exact ⟨_,oD eV HQL.out HLL.out HT.out.2.1 (by (rw [hen0,List.drop_of_length_le (by rw [HRV.out.1];first|exact Nat.le_refl _|simp),List.append_nil]);exact aZ HO7.out (Nat.le_trans hbe hz0)) (fun j hj=>aZ (show World.ownsRow _ _ 41 4 _ _ _ from HQ3.out j hj) (Nat.le_trans hbe hz0)) (aZ (show World.ownsRow _ _ 41 4 _ _ _ from HQ4.out) (Nat.le_trans hbe hz0)) hps⟩
 · injection e with e1 e2 e3;subst e1;clear e2 e3;by_cases hce:ec=lo
   · have hen2:en=ec:=by omega
     subst hen2;subst hce;have hen0:l.length-en=0:=by have:=HEN.out;omega
     rcases eD HO7.out with ⟨_,h0⟩|⟨g7,c7,e7,hg7B,hc7⟩
     · omega
     · subst e7;have hc8:¬c7<en+1:=by omega
       go_wp2_with fail
       go_end0
       refine ⟨w7,_,_,_,rfl,rfl,aA hbw (aA HBX.out HB7.out),?_⟩;have hps:∀j,en≤j→j<l.length→bD w7 B (ps.getD j default) (l.getD j default).b.tx:=fun j _ hj=>absurd hj y2;rw [HLO.out];exact ⟨_,oD eV HQL.out HLL.out HT.out.2.1 (by (rw [hen0,List.drop_of_length_le (by rw [HRV.out.1];first|exact Nat.le_refl _|simp),List.append_nil]);exact aZ HO7.out (Nat.le_trans hbe hz0)) (fun j hj=>aZ (show World.ownsRow _ _ 41 4 _ _ _ from HQ3.out j hj) (Nat.le_trans hbe hz0)) (aZ (show World.ownsRow _ _ 41 4 _ _ _ from HQ4.out) (Nat.le_trans hbe hz0)) hps⟩
   · skip
     have hce2:¬lo=ec:=fun e=>hce e.symm;go_wp2_with (at_builtin;refine wK rfl (.tmp 59) (.tmp 66) rfl rfl wk.heap.size v7 _ _ rfl (aZ HO7.out hz0) _ (en-lo) _ ((aO eV l ps).drop (lo*4)) rfl (by first|exact HRV7.out.dropK hlole|(rw [show en-lo=0 by omega,List.drop_of_length_le (by rw [HRV7.out.1];omega)];exact iI.nilA _ _)) (fun u hu=>HON.out u (List.mem_of_mem_drop hu)) y2 (by have:=HB7.out.size;omega) ?_;intro v9 w9 hown9 hg9 hb9;(obtain ⟨A9,n9,c9,e9⟩:=B1 hown9);subst e9;have hG9:=HG7.out.below hb9 (Nat.lt_of_lt_of_le hgw (Nat.le_trans hbw.size HBX.out.size));have fG:=hG9.frozen;have lG:=hG9.lt;clear a_0 a_1 a_2 a_3 a_4 a_5 a_6 a_7 a_8 a_9;obtain ⟨a_0,a_1,a_2,a_3,a_4,a_5,a_6,a_7,a_8,a_9⟩:=gO hG9.box;clear hG9)
     go_end0
     refine ⟨w9,A9,n9,c9,rfl,rfl,(aA hbw (aA HBX.out HB7.out)).trans (hb9.mono (Nat.le_trans hbw.size HBX.out.size)),?_⟩;have hps:∀j,lo≤j→j<l.length→bD w9 B (ps.getD j default) (l.getD j default).b.tx:=fun j _ hj=>bS (show World.ownsRow _ B 41 4 _ _ _ from HT.out.2.2 j hj) ((aA hbw (aA HBX.out HB7.out)).trans (hb9.mono (Nat.le_trans hbw.size HBX.out.size)));rw [HLO.out];exact ⟨_,oD eV HQL.out HLL.out HT.out.2.1 (by (have e1:lo+1+(l.length-lo)=lo+1+(en-lo):=by rw [HEN.out]);rw [e1];exact aZ hown9 hbe) (fun j hj=>bT (aZ (show World.ownsRow _ _ 41 4 _ _ _ from HQ3.out j hj) (Nat.le_trans hbe hz0)) (aZ HO7.out hz0) y5 hg9) (bT (aZ (show World.ownsRow _ _ 41 4 _ _ _ from HQ4.out) (Nat.le_trans hbe hz0)) (aZ HO7.out hz0) y5 hg9) hps⟩
theorem kJ (g B:Nat) (k0 k1 k2 k3 k4 k5 k6 k8 k9:Value) (eA bA:Option Addr) (en ec bn bc:Nat) (l:List bI) (d:Int) (b:bY) (w:World) (hg:Blk w g 70 [k0,k1,k2,k3,k4,k5,k6,.slice eA en ec,k8,k9]) (hB:B≤w.heap.size) (hh:bL w B (.slice eA en ec) l) (hs:B9 l) (hP:dQ l) (hb:bZ w bA bn b.tx) (hbn:bn≤800000000) (hy:dL l d=false) (hll:l.length<1024) :
 Calls prog 84 #[.pointer (some ⟨g,0,none⟩),d,.agg #[b.au,b.n,.slice bA bn bc]] w fun e w'=>∃X A n c,e=.returned (.tuple #[])∧w'=X.setCell ⟨g,7,none⟩ (.slice A n c)∧Below w w X∧bL X B (.slice A n c) (bM l (bB l d) ⟨d,b⟩):=by
 obtain ⟨ps,hT⟩:=hh;obtain ⟨A',c',e',hR,_⟩:=bL.helds ⟨ps,hT⟩ hs;injection e' with e1 e2 e3;rw [←e1,← e2] at hR;have HEN:Hid (l.length=en):=ħ e2.symm;clear e1 e3;have henb:en<1024:=by omega
 have hd9:decide (1024≤(en:Int))=false:=by simp only [decide_eq_false_iff_not];omega
 have hF:fC l d=-1:=by unfold fC;rw [if_neg (by rw [hy];simp)]
 refine mn (bB l d) fun lo hlo=>?_
 have hlole:lo≤en:=by
  have:bB l d≤l.length:=gD _ _;rw [hlo,e2.symm] at this;exact this
 have HLT:Hid (∀k,k<lo→decide ((hth l k).di<d)=true):=ħ (fun k hk=>by rw [←hlo] at hk;exact Fz _ l hk);have HST:Hid (lo<en→decide ((hth l lo).di<d)=false):=ħ (fun h=>by (have h2:=sH (fun x:bI=>ltI x.di d) l (by show bB l d<l.length;rw [hlo,HEN.out];exact h));rw [show cnt (fun x:bI=>ltI x.di d) l=lo from hlo] at h2;exact h2);have HFI:=ħ hF;have HR:=ħ hR;have HT:=ħ hT;have HS:=ħ hs;have HP:=ħ hP;have HB:=ħ hb;have HLO:=ħ hlo;have HG:=ħ hg;have HLL:=ħ hll;have hgw:=hg.lt;clear hg hR hT hs hP hb hlo hF e2 hy hll;go_enter func84,ntmps84
 have hbX0:Below w w (w.alloc (.cells #[b.au,b.n,.slice bA bn bc] 43)):=aJ;have hXB:Blk (w.alloc (.cells #[b.au,b.n,.slice bA bn bc] 43)) w.heap.size 43 [b.au,b.n,.slice bA bn bc]:=Blk.new w 43 [b.au,b.n,.slice bA bn bc];go_upto_region 1 with fail
 generalize (w.alloc (.cells #[b.au,b.n,.slice bA bn bc] 43))=X at *;have HGX:=ħ (HG.out.up hbX0);have HXB:=ħ hXB;have lgx:=HGX.out.lt;obtain ⟨a_0,a_1,a_2,a_3,a_4,a_5,a_6,a_7,a_8,a_9⟩:=gO HGX.out.box;clear hXB;go_wp2_with (go_at_call 83;refine (eI g _ _ _ _ _ _ _ _ _ eA en ec l d _ HGX.out (HR.out.up hbX0) HP.out).mono ?_;rintro e w' ⟨rfl,rfl⟩;rw [HFI.out])
 clear lgx a_0 a_1 a_2 a_3 a_4 a_5 a_6 a_7 a_8 a_9
 go_loopw [6] (fun iv wr=>∃k:Nat,k≤lo∧iv=.int .i64 k∧Below X X wr) (fun iv _=>lo-(intOf iv).toNat)
 case atStart=>exact ⟨0,Nat.zero_le _,rfl,Below.refl _ _⟩
 case round=>
  obtain ⟨k,hk,rfl,hbk⟩:=hrel
  (obtain ⟨wk,hwk⟩:∃x,x=wr:=⟨_,rfl⟩);subst hwk
  have HGK:=ħ (HGX.out.up hbk);have hbw:Below w w wk:=aA hbX0 hbk;have lgk:=HGK.out.lt;obtain ⟨a_0,a_1,a_2,a_3,a_4,a_5,a_6,a_7,a_8,a_9⟩:=gO HGK.out.box;by_cases hlt:k<lo
  · have hken:k<en:=by omega
    obtain ⟨b9,o9,e9,hb9,hc9⟩:=(HR.out.up hbw).2.2 y2;subst e9;obtain ⟨Bq,mq,dq,⟨f0,f1,f2,f3⟩,-⟩:=hc9 k hken;have hdt:decide ((hth l k).di<d)=true:=HLT.out k hlt;have hkl:decide ((k:Int)<(en:Int))=true:=by simp only [decide_eq_true_eq];omega
    have hkl2:(k:Int)<(en:Int):=by omega
    clear hc9;go_wp2_with fail
    (refine rnd ?_;exact ⟨k+1,by omega,by go_num,hbk⟩)
  · have ekn:lo=k:=by omega
    subst ekn;rcases Nat.lt_or_ge lo en with hkn|hkn
    · obtain ⟨b9,o9,e9,hb9,hc9⟩:=(HR.out.up hbw).2.2 y2;subst e9;obtain ⟨Bq,mq,dq,⟨f0,f1,f2,f3⟩,-⟩:=hc9 lo hkn;have hdt:decide ((hth l lo).di<d)=false:=HST.out hkn;have hkl:decide ((lo:Int)<(en:Int))=true:=by simp only [decide_eq_true_eq];omega
      have hkl2:(lo:Int)<(en:Int):=by omega
      clear hc9;go_upto_region 5 with fail
      rename_i K1 hK1;exact AQ g B lo k0 k1 k2 k3 k4 k5 k6 k8 k9 _ bA en ec bn bc l d b ps w wk hK1 hbw HGK.out hgw (HXB.out.up hbk) hB HT.out HS.out HB.out hbn HLO.out HLL.out
    · have hkl:decide ((lo:Int)<(en:Int))=false:=by simp only [decide_eq_false_iff_not];omega
      go_upto_region 5 with fail
      rename_i K1 hK1;exact AQ g B lo k0 k1 k2 k3 k4 k5 k6 k8 k9 _ bA en ec bn bc l d b ps w wk hK1 hbw HGK.out hgw (HXB.out.up hbk) hB HT.out HS.out HB.out hbn HLO.out HLL.out
theorem iY (g:Nat) (k0 k1 k2 k3 k4 k5 k6 k8 k9:Value) (eA bA:Option Addr) (en ec bn bc:Nat) (l:List bI) (d:Int) (b:bY) (w:World) (hg:Blk w g 70 [k0,k1,k2,k3,k4,k5,k6,.slice eA en ec,k8,k9]) (hR:dU w eA en l) (hP:dQ l) (hy:dL l d=true∨(dL l d=false∧1024≤l.length)) :
 Calls prog 84 #[.pointer (some ⟨g,0,none⟩),d,.agg #[b.au,b.n,.slice bA bn bc]] w fun e w'=>e=.returned (.tuple #[])∧Below w w w':=by
 have HR:=ħ hR;have HP:=ħ hP;have HG:=ħ hg;have HEN:=ħ hR.1;clear hg hR hP;go_enter func84,ntmps84
 have hbX0:Below w w (w.alloc (.cells #[b.au,b.n,.slice bA bn bc] 43)):=aJ;go_upto_region 1 with fail
 generalize (w.alloc (.cells #[b.au,b.n,.slice bA bn bc] 43))=X at *;have HGX:=ħ (HG.out.up hbX0);have lgx:=HGX.out.lt;obtain ⟨a_0,a_1,a_2,a_3,a_4,a_5,a_6,a_7,a_8,a_9⟩:=gO HGX.out.box;rcases hy with hy|⟨hy,hle⟩
 · have hF:fC l d=(bB l d:Int):=by unfold fC;rw [if_pos hy]
   have HFI:=ħ hF;have hdp:decide (0≤(bB l d:Int))=true:=by simp only [decide_eq_true_eq];omega
   clear hy hF;go_wp2_with (go_at_call 83;refine (eI g _ _ _ _ _ _ _ _ _ eA en ec l d _ HGX.out (HR.out.up hbX0) HP.out).mono ?_;rintro e w' ⟨rfl,rfl⟩;rw [HFI.out])
   exact bodyPost_ret (v:=.tuple #[]) (by simp [results,results84,go_sem]) rfl ⟨rfl,hbX0⟩
 · have hF:fC l d=-1:=by unfold fC;rw [if_neg (by rw [hy];simp)]
   have HFI:=ħ hF;have hd9:decide (1024≤(en:Int))=true:=by rw [HEN.out] at hle;simp only [decide_eq_true_eq];omega
   clear hy hF hle;go_wp2_with (go_at_call 83;refine (eI g _ _ _ _ _ _ _ _ _ eA en ec l d _ HGX.out (HR.out.up hbX0) HP.out).mono ?_;rintro e w' ⟨rfl,rfl⟩;rw [HFI.out])
   exact bodyPost_ret (v:=.tuple #[]) (by simp [results,results84,go_sem]) rfl ⟨rfl,hbX0⟩
end Go.Proofs.YtgfakefcmbpboaaGreat
