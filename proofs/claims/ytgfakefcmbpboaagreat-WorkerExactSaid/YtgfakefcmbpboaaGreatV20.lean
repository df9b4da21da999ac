/- Part 20 of what WorkerExact leans on. No conditions. -/
import Derived.Test.YtgfakefcmbpboaaGreatV14
import Derived.Test.YtgfakefcmbpboaaGreatV18
import Derived.Test.YtgfakefcmbpboaaGreatV19
namespace Go.Proofs.YtgfakefcmbpboaaGreat
set_option linter.all false
set_option maxRecDepth 100000
set_option maxHeartbeats 64000000
open _root_.Go.Proofs.Tryz Go.RowKit
open Tok
def aC (T:TypeId) (w w':World):Prop:=∀(q:Nat) (cur:Array Value) (t:TypeId),t≠T→w.heap[q]? =some (.cells cur t (0,0))→w'.heap[q]? =some (.cells cur t (0,0))
theorem aC.refl (T:TypeId) (w:World):aC T w w:=fun _ _ _ _ h=>h
theorem aC.trans {T:TypeId} {a b c:World} (h:aC T a b) (k:aC T b c):aC T a c:=fun q cur t ht hq=>k q cur t ht (h q cur t ht hq)
theorem aC.of_below {T:TypeId} {w w':World} (h:Below w w w'):aC T w w':=fun q cur t _ hq=>(h.block q (Array.getElem?_eq_some_iff.1 hq).1).trans hq
theorem aC.setg {T:TypeId} {w:World} {g o:Nat} {cs:List Value} {u:Value} (hg:Blk w g T cs):aC T w (w.setCell ⟨g,o,none⟩ u):=fun q cur t ht hq=>(Below.heap_setCell _ _ _ _ (fun e=>by
 have e':q=g:=e;subst e';have hb':w.heap[q]? =some (.cells cs.toArray T (0,0)):=hg;rw [hb'] at hq;injection hq with hq;injection hq with _ e3 _;exact ht e3.symm)).trans hq
theorem aC.of_but {T:TypeId} {g:Nat} {w w':World} {cs:List Value} (hg:Blk w g T cs) (h:But w.heap.size g w w'):aC T w w':=fun q cur t ht hq=>(h.block q (Array.getElem?_eq_some_iff.1 hq).1 (fun e=>by
 subst e;have hb':w.heap[q]? =some (.cells cs.toArray T (0,0)):=hg;rw [hb'] at hq;injection hq with hq;injection hq with _ e3 _;exact ht e3.symm)).trans hq
theorem aR {T:TypeId} {w w':World} {B k n:Nat} {t:TypeId} {v:Value} {xs:List Value} (h:w.ownsRow B t k v n xs) (hk:aC T w w') (hne:t≠T):w'.ownsRow B t k v n xs:=jZ h fun q hq=>by
 obtain ⟨_,cur,e⟩:=gX h q hq;rw [e];exact hk q cur t hne e
theorem Blk.tk {T:TypeId} {w w':World} {g:Nat} {t:TypeId} {cs:List Value} (h:Blk w g t cs) (hk:aC T w w') (hne:t≠T):Blk w' g t cs:=hk g _ t hne h
def uP (T:TypeId):Prop:=T=142∨T=27
theorem eF:uP 142:=.inl rfl
theorem aU:uP 27:=.inr rfl
theorem eS {T:TypeId} {w w':World} {B k n:Nat} {t:TypeId} {v:Value} {xs:List Value} (h:w.ownsRow B t k v n xs) (hk:aC T w w') (hT:uP T) (h1:t≠142) (h2:t≠27):w'.ownsRow B t k v n xs:=aR h hk (by rcases hT with rfl|rfl;exact h1;exact h2)
theorem bL.tk {T:TypeId} {w w':World} {B:Nat} {v:Value} {l:List bI} (h:bL w B v l) (hk:aC T w w') (hT:uP T):bL w' B v l:=by
 obtain ⟨ps,h1,h2,h3⟩:=h;exact ⟨ps,eS h1 hk hT y5 y5,h2,fun j hj=>eS (h3 j hj) hk hT y5 y5⟩
theorem cR.tk {T:TypeId} {w w':World} {B:Nat} {v:Value} {l:List aV} (h:cR w B v l) (hk:aC T w w') (hT:uP T):cR w' B v l:=by
 obtain ⟨ps,h1,h2,h3⟩:=h;exact ⟨ps,eS h1 hk hT y5 y5,h2,fun j hj=>eS (h3 j hj) hk hT y5 y5⟩
theorem dS.tk {T:TypeId} {w w':World} {B:Nat} {P M} (h:dS w B P M) (hk:aC T w w') (hT:uP T):dS w' B P M:=
 ⟨eS h.b hk hT y5 y5,eS h.h1 hk hT y5 y5,eS h.h2 hk hT y5 y5,eS h.c1 hk hT y5 y5,eS h.c2 hk hT y5 y5,eS h.c3 hk hT y5 y5,eS h.ds hk hT y5 y5⟩
theorem dH.tk {T:TypeId} {w w':World} {B:Nat} {v:Value} {l:List aY} (h:dH w B v l) (hk:aC T w w') (hT:uP T):dH w' B v l:=by
 obtain ⟨ps,h1,h2,h3⟩:=h;exact ⟨ps,eS h1 hk hT y5 y5,h2,fun j hj=>(h3 j hj).tk hk hT⟩
theorem aX.tk {T:TypeId} {w w':World} {B:Nat} {P:aF} {D:aD} (h:aX w B P D) (hk:aC T w w') (hT:uP T):aX w' B P D:=⟨eS h.op hk hT y5 y5,h.wa.tk hk hT,h.he.tk hk hT,eS h.re hk hT y5 y5⟩
theorem aC.sets9 {T:TypeId} {w:World} {g:Nat} {cs:List Value} (h:Blk w g T cs) (a0 a1 a2 a3 a4 a5 a6 a7 a8:Value):aC T w (kA w g a0 a1 a2 a3 a4 a5 a6 a7 a8):=
 ((((((((aC.setg h).trans (aC.setg (h.set_ 0 a0))).trans (aC.setg ((h.set_ 0 a0).set_ 1 a1))).trans (aC.setg (((h.set_ 0 a0).set_ 1 a1).set_ 2 a2))).trans (aC.setg ((((h.set_ 0 a0).set_ 1 a1).set_ 2 a2).set_ 3 a3))).trans (aC.setg (((((h.set_ 0 a0).set_ 1 a1).set_ 2 a2).set_ 3 a3).set_ 4 a4))).trans (aC.setg ((((((h.set_ 0 a0).set_ 1 a1).set_ 2 a2).set_ 3 a3).set_ 4 a4).set_ 5 a5))).trans (aC.setg (((((((h.set_ 0 a0).set_ 1 a1).set_ 2 a2).set_ 3 a3).set_ 4 a4).set_ 5 a5).set_ 6 a6))).trans (aC.setg ((((((((h.set_ 0 a0).set_ 1 a1).set_ 2 a2).set_ 3 a3).set_ 4 a4).set_ 5 a5).set_ 6 a6).set_ 7 a7))
theorem bZ.dropped {w:World} {b n:Nat} {l:List TxD} (h:bZ w (some ⟨b,0,none⟩) n l) {i:Nat} (hi:i<n):bZ w (some ⟨b,i*4,none⟩) (n-i) (l.drop i):=by
 obtain ⟨h1,h2,h3,h4⟩:=h;obtain ⟨b',off,e,hb,hc⟩:=h4 y2;injection e with e;injection e with e1 e2 _;subst e1;subst e2;refine ⟨by rw [List.length_drop,h1],by rw [tX gQ,List.length_drop,h2];omega,by omega,fun _=>⟨b,i*4,rfl,hb,fun j u hj=>?_⟩⟩;rw [tX gQ,List.getElem?_drop] at hj;have:=hc _ _ hj
 rwa [Nat.zero_add] at this
theorem iG {w:World} {B g:Nat} {x:Int} (h:Blk w g 3 [x]) (hB:B≤g):aE w B (.slice (some ⟨g,0,none⟩) 1 1) [x]:=
 ⟨rfl,.inr ⟨g,1,#[x],rfl,hB,h,Nat.le_refl _,by decide,rfl,rfl⟩⟩
theorem F6 {l:List Int} (h:∀j,j+1<l.length→nth l j<nth l (j+1)):∀i j,i<j→j<l.length→nth l i<nth l j:=by
 have main:∀d i,i+d+1<l.length→nth l i<nth l (i+d+1):=fun d=>by
  induction d with
  | zero=>intro i hi;exact h i hi
  | succ d ih=>intro i hi;have:=ih i y2;have:=h (i+d+1) y2;rw [show i+(d+1)+1=i+d+1+1 by omega];omega
 intro i j hij hj;have:=main (j-i-1) i y2
 rwa [show i+(j-i-1)+1=j by omega] at this
theorem Em {l:List Int} {n:Int} (h:fP l 1 n=true):dO l n:=by
 obtain ⟨h1,h2⟩:=bJ.1 h;exact ⟨F6 h1,h2⟩
theorem WaitsOk.sorted {l:List aV} {n:Int} (h:wtB l n=true):gK l:=by
 have h0:=rP.1 h
 have main:∀d i,i+d+1<l.length→(wth l i).di<(wth l (i+d+1)).di:=fun d=>by
  induction d with
  | zero=>intro i hi;have:=(h0 (i+1) hi).2.2 y2;simpa using this
  | succ d ih=>intro i hi;have:=ih i y2;have h9:=(h0 (i+d+1+1) y2).2.2 y2;simp only [Nat.add_sub_cancel] at h9;rw [show i+(d+1)+1=i+d+1+1 by omega];omega
 intro i j hij hj;have:=main (j-i-1) i y2;rw [show i+(j-i-1)+1=j by omega] at this;simpa [ltI] using this
theorem wI {l:List aV} {n:Int} (h:wtB l n=true):∀x∈l,dO x.ak n:=fun x hx=>by
 obtain ⟨j,hj,rfl⟩:=List.getElem_of_mem hx;have:=(rP.1 h j hj).2.1;simp only [wth,List.getD_eq_getElem?_getD,List.getElem?_eq_getElem hj,Option.getD_some] at this;exact Em this
theorem mD {α:Type} {l:List α} {i:Nat} {x y:α} (h:y∈bM l i x):y=x∨y∈l:=by
 unfold bM at h;rw [List.mem_append,List.mem_cons] at h;rcases h with h|rfl|h
 · exact .inr (List.mem_of_mem_take h)
 · exact .inl rfl
 · exact .inr (List.mem_of_mem_drop h)
noncomputable def dR (D:aD) (d:Int):List aV:=if eW D.wa d=true then D.wa else bM D.wa (eK D.wa d) ⟨d,[D.id]⟩
theorem uD {D:aD} {d:Int} {x:aV} (h:x∈dR D d):x=⟨d,[D.id]⟩∨x∈D.wa:=by
 unfold dR at h;split at h
 · exact .inr h
 · exact mD h
theorem uC (D:aD) (d:Int):(dR D d).length≤D.wa.length+1:=by
 unfold dR;split
 · omega
 · rw [cP (show eK D.wa d≤D.wa.length from gD _ _)];omega
theorem Bi {D:aD} {d:Int} (h:wtB D.wa D.nodes=true) (h1:1≤D.id) (h2:D.id≤D.nodes):∀x∈dR D d,dO x.ak D.nodes:=fun x hx=>by
 rcases uD hx with rfl|hx
 · exact ⟨fun i j hij hj=>by simp at hj;omega,fun j hj=>by (obtain rfl:j=0:=by simpa using hj);exact ⟨h1,h2⟩⟩
 · exact wI h x hx
theorem Fg {D:aD} {d:Int} (h:nU D.wa) (hl:D.wa.length≤700000000):nU (dR D d):=⟨by have:=uC D d;omega,fun x hx=>by
 rcases uD hx with rfl|hx
 · simp
 · exact h.2 x hx⟩
noncomputable def cF (D:aD) (d:Int):aD:={D with op:=D.op.drop 8,next:=D.next+1,age:=0,he:=bM D.he (bB D.he d) ⟨d,nxD D⟩,wa:=bH D.nodes (dR D d),re:=bE D.nodes D.re (dR D d)}
theorem Bv (P:aF) (D:aD) (d:Int) (B:Nat) (w:World) (hO:aX w B P D) (hs:dY D) (hB:B≤w.heap.size) (hm:dZ D=true) (hE:nxE D=0) (hd:fX d=true) (hk:dL D.he d=false) (hre:D.re.length+D.wa.length≤700000000) :
 Calls prog 88 #[P.val D,d] w fun e w'=>∃P' A n c,e=.returned (.tuple #[P'.val (cF D d),.slice A n c,z0])∧aX w' B P' (cF D d)∧dH w' w.heap.size (.slice A n c) (dF D.id d (nxD D) [] D.nodes.toNat)∧Below w w w':=by
 have HM:=ħ (cX.1 hm);have HW:=ħ (hO.work hs);have HO:=ħ hO;have HS:=ħ hs;have HE:=ħ hE;have HD:=ħ hd;have HKF:=ħ hk;have HRE:=ħ hre;refine mn (bB D.he d) fun lo hlo=>?_;have HLO:=ħ hlo;obtain ⟨⟨oA,on,oc⟩,⟨tA,tn,tc⟩,⟨eA,en,ec⟩,⟨rA,rn,rc⟩⟩:=P;have HON:Hid (D.op.length=on):=ħ HW.out.op.1;have HEN:Hid (D.he.length=en):=ħ HW.out.he.1;have hnext:=(sL hE).2.1;obtain ⟨m1,m2,m3,m4,m5,m6,m7,m8,m9,m10,m11,m12⟩:=HM.out;have hid1:=m2;have hid2:=m3;have hn16:D.nodes≤16:=(gR m1).2;have hn1:1≤D.nodes:=(gR m1).1;have hnx1:1≤D.next:=(eQ.1 m4).1;have hon:on≤64:=by rw [←HON.out];exact m7
 have hen:en≤1024:=by rw [←HEN.out];exact m8
 clear hO hs hm hE hd hk hre hlo m1 m2 m3 m4 m5 m6 m7 m8 m9 m10 m11 m12;show Calls prog 88 #[.agg (cV D oA on oc tA tn tc eA en ec rA rn rc),d] w _;go_enter func88,ntmps88
 go_wp2_with fail
 have hX1:Blk ((w.alloc (.cells (cV D oA on oc tA tn tc eA en ec rA rn rc) 27)).alloc (.cells cZ 27)) (w.heap.size+1) 27 cZ:=by
  have:=Blk.new (w.alloc (.cells (cV D oA on oc tA tn tc eA en ec rA rn rc) 27)) 27 cZ;simpa using this
 have hX0:Blk ((w.alloc (.cells (cV D oA on oc tA tn tc eA en ec rA rn rc) 27)).alloc (.cells cZ 27)) w.heap.size 27 (cV D oA on oc tA tn tc eA en ec rA rn rc):=(Blk.new w 27 (cV D oA on oc tA tn tc eA en ec rA rn rc)).up (aJ);have hbX:Below w w ((w.alloc (.cells (cV D oA on oc tA tn tc eA en ec rA rn rc) 27)).alloc (.cells cZ 27)):=aJ;generalize ((w.alloc (.cells (cV D oA on oc tA tn tc eA en ec rA rn rc) 27)).alloc (.cells cZ 27))=X at *;have HX0:=ħ hX0;have HX1:=ħ hX1;clear hX0 hX1;refine (jD ⟨⟨oA,on,oc⟩,⟨tA,tn,tc⟩,⟨eA,en,ec⟩,⟨rA,rn,rc⟩⟩ D _ (HW.out.up hbX) HE.out (by rw [HON.out];omega)).mono ?_;rintro e w1 ⟨v1,rfl,ho1,hb1⟩;obtain ⟨bA,bc,rfl,htx1,-⟩:=ho1.txs (by have:=List.length_take_le 8 D.op;omega);refine mn ((D.op.take 8).length) fun bn hbn=>?_;rw [hbn] at htx1 ho1 ⊢;have HBN:=ħ hbn;have hbn8:bn≤8:=by rw [←hbn];exact List.length_take_le 8 D.op
 have hbnn:bn≤on:=by rw [←hbn,List.length_take,HON.out];omega
 have HB1:=ħ ho1;have hb1w:Below w w w1:=aA hbX hb1;have hY0:=HX0.out.up hb1;have hY1:=HX1.out.up hb1;have HY0:=ħ hY0;have HY1:=ħ hY1;have hTX1:=ħ htx1;obtain ⟨a_0,a_1,a_2,a_3,a_4,a_5,a_6,a_7,a_8⟩:=bx9 hY0.box;have ly0:=hY0.lt;have ly1:=hY1.lt;clear hbn htx1 ho1 hY0 hY1 HX0 HX1 hb1;go_wp2_with (go_at_call 110;refine (bR d true _ HD.out).mono ?_;rintro e w' ⟨rfl,rfl⟩)
 have hz1:w.heap.size+1<w1.heap.size:=HY1.out.lt;have hbZ1:Below w1 w1 (w1.alloc (.cells #[D.id,D.next,.slice bA bn bc] 43)):=aJ;have HQ7:=ħ (Blk.new w1 43 [D.id,D.next,.slice bA bn bc]);refine (gZ eA en ec D.he d lo false _ (HW.out.he.up (aA hb1w hbZ1)) (BN.sorted (fD.1 HM.out.2.2.2.2.2.2.2.2.2.2.1)) y2 HLO.out HKF.out).mono ?_;rintro e w3 ⟨rfl,hb3⟩;have hb31:Below w1 w1 w3:=aA hbZ1 hb3;have hb3w:Below w w w3:=aA hb1w hb31;have HQ7b:=ħ (HQ7.out.up hb3);have HU0:=ħ (HY0.out.up hb31);have HU1:=ħ (HY1.out.up hb31);have lu0:=HU0.out.lt;have lu1:=HU1.out.lt;clear a_0 a_1 a_2 a_3 a_4 a_5 a_6 a_7 a_8 ly0 ly1 HQ7 hbZ1 hb3;obtain ⟨a_0,a_1,a_2,a_3,a_4,a_5,a_6,a_7,a_8⟩:=bx9 HU0.out.box;go_upto_region 10 with fail
 refine nm w3.heap.size fun g hg=>?_;have hG:Blk (w3.alloc (.cells (cU D oA on oc tA tn tc eA en ec rA rn rc none 0 0) 142)) g 142 (cU D oA on oc tA tn tc eA en ec rA rn rc none 0 0):=by rw [hg];exact Blk.new w3 142 (cU D oA on oc tA tn tc eA en ec rA rn rc none 0 0)
 have hb3X:Below w3 w3 (w3.alloc (.cells (cU D oA on oc tA tn tc eA en ec rA rn rc none 0 0) 142)):=aJ;rw [←hg];refine nm ((w3.alloc (.cells (cU D oA on oc tA tn tc eA en ec rA rn rc none 0 0) 142))) fun X2 hX2=>?_;rw [←hX2] at hG hb3X ⊢;clear hX2;refine nm w1.heap.size fun g7 hg7=>?_;rw [←hg7] at HQ7b ⊢;have HQ7:=ħ (HQ7b.out.up hb3X);have HV1:=ħ (HU1.out.up hb3X);have hbX2:Below w w X2:=aA hb3w hb3X;have HG:=ħ hG;have hgl:=hG.lt;have hg7g:g7<g:=by have:=HQ7b.out.lt;omega
 have hN1:w.heap.size+1<g7:=by omega
 have HOX:=ħ (HO.out.up hbX2);have HB2:=ħ (HB1.out.up (aA hb31 hb3X));have HGE:=ħ hg;have HG7E:=ħ hg7;have hgw:w.heap.size+2≤g:=by omega
 have hg3:w3.heap.size≤g:=by omega
 clear hG HQ7b HU0 HU1 a_0 a_1 a_2 a_3 a_4 a_5 a_6 a_7 a_8 hg hg7
 have hon0:0<on:=by
  have h9:=(sL HE.out).1;rw [HON.out] at h9;omega
 obtain ⟨go,eo,hgo1,hgo2⟩:=qA (show World.ownsRow _ B 41 4 (.slice oA on oc) on _ from by have h9:=HOX.out.op;unfold bD SlP.v at h9;rw [HON.out] at h9;exact h9) hon0;subst eo;have hooc:on≤oc:=HW.out.oc;have hocm:oc≤9223372036854775807:=HW.out.om
 have HDR:Hid (D.op.drop bn=D.op.drop 8):=ħ (by
  rw [←HBN.out,List.length_take];rcases Nat.le_total 8 D.op.length with h|h
  · rw [Nat.min_eq_left h]
  · rw [Nat.min_eq_right h,List.drop_length,List.drop_eq_nil_of_le h])
 go_cut [] from 39 to 66 (fun wx=>∃A n c,Blk wx g 142 [D.id,D.nodes,.int .i64 (D.next+1),.slice A n c,z0,D.clock,.slice tA tn tc,.slice eA en ec,.slice rA rn rc,n0]∧bD wx X2.heap.size (.slice A n c) (D.op.drop 8)∧aC 142 X2 wx∧Below w3 w3 wx)
 case first=>
  have hg7l:g7<X2.heap.size:=HQ7.out.lt;have hgnx:=IntWalk.i64_in (n:=D.next+1) y2;refine mn ((D.op.drop bn).length) fun no hno=>?_;have hno2:no≤64:=by rw [←hno,List.length_drop,HON.out];omega
  have HNO:=ħ hno;clear hno;obtain ⟨S,hS⟩:∃S:World→Prop,S=fun Y=>Y.cell? ⟨g7,2,none⟩=some (.slice bA bn bc):=⟨_,rfl⟩;have hS1:∀Y,S Y→Y.cell? ⟨g7,2,none⟩=some (.slice bA bn bc):=fun Y h=>by rw [hS] at h;exact h
  have hS2:∀Y,Below X2 X2 Y→S Y:=fun Y hY=>by rw [hS];exact (HQ7.out.up hY).box.2 2 _ rfl
  have hS4:∀Y o u,S Y→S (Y.setCell ⟨g,o,none⟩ u):=fun Y o u h=>by rw [hS] at h ⊢;dsimp only at h ⊢;exact (World.cell?_setCell_other _ _ _ _ y15).trans h
  have hc3:∀Y,Below X2 X2 Y→Y.cell? ⟨g,3,none⟩=some (.slice (some ⟨go,0,none⟩) on oc):=fun Y hY=>(HG.out.up hY).box.2 3 _ rfl;have hc2:∀Y,Below X2 X2 Y→Y.cell? ⟨g,2,none⟩=some (.int .i64 D.next):=fun Y hY=>(HG.out.up hY).box.2 2 _ rfl
  have HTD:Hid (∀Y,Below X2 X2 Y→bZ Y (some ⟨go,bn*4,none⟩) (on-bn) (D.op.drop bn)):=ħ (fun Y hY=>by
   by_cases hbo:bn<on
   · exact ((HW.out.op.up hbX2).up hY).dropped hbo
   · have e1:on-bn=0:=by omega
     have e2:D.op.drop bn=[]:=List.drop_eq_nil_of_le (by rw [HON.out];omega);rw [e1,e2];exact ⟨rfl,rfl,by omega,fun h=>absurd h y2⟩)
  clear hS;by_cases hcap:oc=bn
  · have hon2:on=bn:=by omega
    have HTD0:Hid (∀Y,bZ Y (some ⟨go,0,none⟩) 0 (D.op.drop bn)):=ħ (fun Y=>by
     have e2:D.op.drop bn=[]:=List.drop_eq_nil_of_le (by rw [HON.out];omega);rw [e2];exact ⟨rfl,rfl,by omega,fun h=>absurd h y2⟩)
    have hcap':bn=oc:=hcap.symm;have hon2':bn=on:=hon2.symm;clear hcap hon2;subst hcap';subst hon2';refine wp_region_held_drew (S:=S) y8 (hS2 _ (aM (Below.refl _ _))) (fun hHeld=>?_);have hbd:=bdr X2;have hZ:=hHeld;generalize X2.drew=Z at *;refine tk 0 39 ?_;refine tk 1 40 ?_;refine tk 2 41 ?_;refine tk 3 42 ?_;refine tk 4 43 ?_;refine tk 5 44 ?_;refine tk 6 45 ?_;refine tk 8 47 ?_;refine tq 9 48 hS1 ?_;refine tk 10 49 ?_;refine tk 13 52 ?_;refine tk 14 53 ?_;refine tk 15 54 ?_;refine tk 16 55 ?_;refine ry2 7 17 (fun K hK=>?_) fun K hK=>?_
    · skip
      have q9:=hc3 _ (hbd);go_simp;clear q9;refine hk hK (hS2 _ (hbd)) fun hHeld=>?_;clear hK K;refine tk 11 50 ?_;refine ry2 12 17 (fun K hK=>?_) fun K hK=>?_
      · skip
        go_simp;(go_at_call 113;refine (fL (some ⟨go,0,none⟩) 0 0 (D.op.drop bn) _ (HTD0.out _) y2).mono ?_;rintro e wo ⟨vo,rfl,ho5,hbO⟩;obtain ⟨Ao,co,eo,-⟩:=ho5.txs y82;rw [HNO.out] at eo;subst eo)
        have hbO2:=aA (hbd) hbO;have ho5':=ho5.mono (B':=X2.heap.size) ((hbd).size);refine hk hK (hS2 _ hbO2) fun hHeld=>?_;clear hK K;refine ry 17 fun K hK=>?_;have q9:=hc2 _ (hbO2);go_simp;clear q9;refine hk hK (hS2 _ (hbO2)) fun hHeld=>?_;clear hK K;refine tk 18 57 ?_;refine tk 19 58 ?_;refine tk 20 59 ?_;refine tk 21 60 ?_;refine ry 22 fun K hK=>?_;have hG0:=HG.out.up hbO2;have hs0:=hS2 _ hbO2;have qf:=hG0.frozen;have ql:=hG0.lt;have q9:=hG0.box.2 3 _ rfl;go_simp;clear qf ql q9;have hG1:=hG0.set_ 3 (.slice Ao no co);have hs1:=hS4 _ 3 (.slice Ao no co) hs0;refine hk hK (hs1) fun hHeld=>?_;clear hK K;refine tk 23 61 ?_;refine tk 24 62 ?_;refine tk 25 63 ?_;refine ry 26 fun K hK=>?_;have qf:=hG1.frozen;have ql:=hG1.lt;have q9:=hG1.box.2 2 _ rfl;go_simp;clear qf ql q9;have hG2:=hG1.set_ 2 (.int .i64 (D.next+1));have hs2:=hS4 _ 2 (.int .i64 (D.next+1)) hs1;refine hk hK (hs2) fun hHeld=>?_;clear hK K;refine tk 27 64 ?_;refine tk 28 65 ?_;refine tk 29 66 ?_;refine ry 30 fun K hK=>?_;have qf:=hG2.frozen;have ql:=hG2.lt;have q9:=hG2.box.2 4 _ rfl;go_simp;clear qf ql q9;have hG3:=hG2.set_ 4 (.int .i64 0);have hs3:=hS4 _ 4 (.int .i64 0) hs2;refine hk hK (hs3) fun hHeld=>?_;clear hK K;refine wz ?_;go_wp2_with fail
        go_meet
        have ht1:=((aC.setg (o:=3) (u:=.slice Ao no co) hG0).trans (aC.setg (o:=2) (u:=.int .i64 (D.next+1)) hG1)).trans (aC.setg (o:=4) (u:=.int .i64 0) hG2);exact ⟨Ao,no,co,hG3,by rw [←HDR.out];exact aR ho5' ht1 y5,(aC.of_below hbO2).trans ht1,((((hb3X.trans (hbO2.mono hb3X.size)).setCell (p:=⟨g,3,none⟩) hg3 _).setCell (p:=⟨g,2,none⟩) hg3 _).setCell (p:=⟨g,4,none⟩) hg3 _)⟩
      · skip
        have q9:=hc2 _ (hbd);go_simp;clear q9;refine hk hK (hS2 _ (hbd)) fun hHeld=>?_;clear hK K;refine tk 18 57 ?_;refine ry 12 fun K hK=>?_;go_simp;(go_at_call 113;refine (fL (some ⟨go,0,none⟩) 0 0 (D.op.drop bn) _ (HTD0.out _) y2).mono ?_;rintro e wo ⟨vo,rfl,ho5,hbO⟩;obtain ⟨Ao,co,eo,-⟩:=ho5.txs y82;rw [HNO.out] at eo;subst eo)
        have hbO2:=aA (hbd) hbO;have ho5':=ho5.mono (B':=X2.heap.size) ((hbd).size);refine hk hK (hS2 _ hbO2) fun hHeld=>?_;clear hK K;refine tk 19 58 ?_;refine tk 20 59 ?_;refine tk 21 60 ?_;refine ry 22 fun K hK=>?_;have hG0:=HG.out.up hbO2;have hs0:=hS2 _ hbO2;have qf:=hG0.frozen;have ql:=hG0.lt;have q9:=hG0.box.2 3 _ rfl;go_simp;clear qf ql q9;have hG1:=hG0.set_ 3 (.slice Ao no co);have hs1:=hS4 _ 3 (.slice Ao no co) hs0;refine hk hK (hs1) fun hHeld=>?_;clear hK K;refine tk 23 61 ?_;refine tk 24 62 ?_;refine tk 25 63 ?_;refine ry 26 fun K hK=>?_;have qf:=hG1.frozen;have ql:=hG1.lt;have q9:=hG1.box.2 2 _ rfl;go_simp;clear qf ql q9;have hG2:=hG1.set_ 2 (.int .i64 (D.next+1));have hs2:=hS4 _ 2 (.int .i64 (D.next+1)) hs1;refine hk hK (hs2) fun hHeld=>?_;clear hK K;refine tk 27 64 ?_;refine tk 28 65 ?_;refine tk 29 66 ?_;refine ry 30 fun K hK=>?_;have qf:=hG2.frozen;have ql:=hG2.lt;have q9:=hG2.box.2 4 _ rfl;go_simp;clear qf ql q9;have hG3:=hG2.set_ 4 (.int .i64 0);have hs3:=hS4 _ 4 (.int .i64 0) hs2;refine hk hK (hs3) fun hHeld=>?_;clear hK K;refine wz ?_;go_wp2_with fail
        go_meet
        have ht1:=((aC.setg (o:=3) (u:=.slice Ao no co) hG0).trans (aC.setg (o:=2) (u:=.int .i64 (D.next+1)) hG1)).trans (aC.setg (o:=4) (u:=.int .i64 0) hG2);exact ⟨Ao,no,co,hG3,by rw [←HDR.out];exact aR ho5' ht1 y5,(aC.of_below hbO2).trans ht1,((((hb3X.trans (hbO2.mono hb3X.size)).setCell (p:=⟨g,3,none⟩) hg3 _).setCell (p:=⟨g,2,none⟩) hg3 _).setCell (p:=⟨g,4,none⟩) hg3 _)⟩
    · skip
      have q9:=hc2 _ (hbd);go_simp;clear q9;refine hk hK (hS2 _ (hbd)) fun hHeld=>?_;clear hK K;refine tk 18 57 ?_;refine ry 7 fun K hK=>?_;have q9:=hc3 _ (hbd);go_simp;clear q9;refine hk hK (hS2 _ (hbd)) fun hHeld=>?_;clear hK K;refine tk 11 50 ?_;refine ry 12 fun K hK=>?_;go_simp;(go_at_call 113;refine (fL (some ⟨go,0,none⟩) 0 0 (D.op.drop bn) _ (HTD0.out _) y2).mono ?_;rintro e wo ⟨vo,rfl,ho5,hbO⟩;obtain ⟨Ao,co,eo,-⟩:=ho5.txs y82;rw [HNO.out] at eo;subst eo)
      have hbO2:=aA (hbd) hbO;have ho5':=ho5.mono (B':=X2.heap.size) ((hbd).size);refine hk hK (hS2 _ hbO2) fun hHeld=>?_;clear hK K;refine tk 19 58 ?_;refine tk 20 59 ?_;refine tk 21 60 ?_;refine ry 22 fun K hK=>?_;have hG0:=HG.out.up hbO2;have hs0:=hS2 _ hbO2;have qf:=hG0.frozen;have ql:=hG0.lt;have q9:=hG0.box.2 3 _ rfl;go_simp;clear qf ql q9;have hG1:=hG0.set_ 3 (.slice Ao no co);have hs1:=hS4 _ 3 (.slice Ao no co) hs0;refine hk hK (hs1) fun hHeld=>?_;clear hK K;refine tk 23 61 ?_;refine tk 24 62 ?_;refine tk 25 63 ?_;refine ry 26 fun K hK=>?_;have qf:=hG1.frozen;have ql:=hG1.lt;have q9:=hG1.box.2 2 _ rfl;go_simp;clear qf ql q9;have hG2:=hG1.set_ 2 (.int .i64 (D.next+1));have hs2:=hS4 _ 2 (.int .i64 (D.next+1)) hs1;refine hk hK (hs2) fun hHeld=>?_;clear hK K;refine tk 27 64 ?_;refine tk 28 65 ?_;refine tk 29 66 ?_;refine ry 30 fun K hK=>?_;have qf:=hG2.frozen;have ql:=hG2.lt;have q9:=hG2.box.2 4 _ rfl;go_simp;clear qf ql q9;have hG3:=hG2.set_ 4 (.int .i64 0);have hs3:=hS4 _ 4 (.int .i64 0) hs2;refine hk hK (hs3) fun hHeld=>?_;clear hK K;refine wz ?_;go_wp2_with fail
      go_meet
      have ht1:=((aC.setg (o:=3) (u:=.slice Ao no co) hG0).trans (aC.setg (o:=2) (u:=.int .i64 (D.next+1)) hG1)).trans (aC.setg (o:=4) (u:=.int .i64 0) hG2);exact ⟨Ao,no,co,hG3,by rw [←HDR.out];exact aR ho5' ht1 y5,(aC.of_below hbO2).trans ht1,((((hb3X.trans (hbO2.mono hb3X.size)).setCell (p:=⟨g,3,none⟩) hg3 _).setCell (p:=⟨g,2,none⟩) hg3 _).setCell (p:=⟨g,4,none⟩) hg3 _)⟩
  have hcap2:bn<oc:=by omega
  refine wp_region_held_drew (S:=S) y8 (hS2 _ (aM (Below.refl _ _))) (fun hHeld=>?_);have hbd:=bdr X2;have hZ:=hHeld;generalize X2.drew=Z at *;refine tk 0 39 ?_;refine tk 1 40 ?_;refine tk 2 41 ?_;refine tk 3 42 ?_;refine tk 4 43 ?_;refine tk 5 44 ?_;refine tk 6 45 ?_;refine tk 8 47 ?_;refine tq 9 48 hS1 ?_;refine tk 10 49 ?_;refine tk 13 52 ?_;refine tk 14 53 ?_;refine tk 15 54 ?_;refine tk 16 55 ?_;refine ry2 7 17 (fun K hK=>?_) fun K hK=>?_
  · skip
    have q9:=hc3 _ (hbd);go_simp;clear q9;refine hk hK (hS2 _ (hbd)) fun hHeld=>?_;clear hK K;refine tk 11 50 ?_;refine ry2 12 17 (fun K hK=>?_) fun K hK=>?_
    · skip
      go_simp;(go_at_call 113;refine (fL (some ⟨go,bn*4,none⟩) (on-bn) _ (D.op.drop bn) _ (HTD.out _ (hbd)) y2).mono ?_;rintro e wo ⟨vo,rfl,ho5,hbO⟩;obtain ⟨Ao,co,eo,-⟩:=ho5.txs y82;rw [HNO.out] at eo;subst eo)
      have hbO2:=aA (hbd) hbO;have ho5':=ho5.mono (B':=X2.heap.size) ((hbd).size);refine hk hK (hS2 _ hbO2) fun hHeld=>?_;clear hK K;refine ry 17 fun K hK=>?_;have q9:=hc2 _ (hbO2);go_simp;clear q9;refine hk hK (hS2 _ (hbO2)) fun hHeld=>?_;clear hK K;refine tk 18 57 ?_;refine tk 19 58 ?_;refine tk 20 59 ?_;refine tk 21 60 ?_;refine ry 22 fun K hK=>?_;have hG0:=HG.out.up hbO2;have hs0:=hS2 _ hbO2;have qf:=hG0.frozen;have ql:=hG0.lt;have q9:=hG0.box.2 3 _ rfl;go_simp;clear qf ql q9;have hG1:=hG0.set_ 3 (.slice Ao no co);have hs1:=hS4 _ 3 (.slice Ao no co) hs0;refine hk hK (hs1) fun hHeld=>?_;clear hK K;refine tk 23 61 ?_;refine tk 24 62 ?_;refine tk 25 63 ?_;refine ry 26 fun K hK=>?_;have qf:=hG1.frozen;have ql:=hG1.lt;have q9:=hG1.box.2 2 _ rfl;go_simp;clear qf ql q9;have hG2:=hG1.set_ 2 (.int .i64 (D.next+1));have hs2:=hS4 _ 2 (.int .i64 (D.next+1)) hs1;refine hk hK (hs2) fun hHeld=>?_;clear hK K;refine tk 27 64 ?_;refine tk 28 65 ?_;refine tk 29 66 ?_;refine ry 30 fun K hK=>?_;have qf:=hG2.frozen;have ql:=hG2.lt;have q9:=hG2.box.2 4 _ rfl;go_simp;clear qf ql q9;have hG3:=hG2.set_ 4 (.int .i64 0);have hs3:=hS4 _ 4 (.int .i64 0) hs2;refine hk hK (hs3) fun hHeld=>?_;clear hK K;refine wz ?_;go_wp2_with fail
      go_meet
      have ht1:=((aC.setg (o:=3) (u:=.slice Ao no co) hG0).trans (aC.setg (o:=2) (u:=.int .i64 (D.next+1)) hG1)).trans (aC.setg (o:=4) (u:=.int .i64 0) hG2);exact ⟨Ao,no,co,hG3,by rw [←HDR.out];exact aR ho5' ht1 y5,(aC.of_below hbO2).trans ht1,((((hb3X.trans (hbO2.mono hb3X.size)).setCell (p:=⟨g,3,none⟩) hg3 _).setCell (p:=⟨g,2,none⟩) hg3 _).setCell (p:=⟨g,4,none⟩) hg3 _)⟩
    · skip
      have q9:=hc2 _ (hbd);go_simp;clear q9;refine hk hK (hS2 _ (hbd)) fun hHeld=>?_;clear hK K;refine tk 18 57 ?_;refine ry 12 fun K hK=>?_;go_simp;(go_at_call 113;refine (fL (some ⟨go,bn*4,none⟩) (on-bn) _ (D.op.drop bn) _ (HTD.out _ (hbd)) y2).mono ?_;rintro e wo ⟨vo,rfl,ho5,hbO⟩;obtain ⟨Ao,co,eo,-⟩:=ho5.txs y82;rw [HNO.out] at eo;subst eo)
      have hbO2:=aA (hbd) hbO;have ho5':=ho5.mono (B':=X2.heap.size) ((hbd).size);refine hk hK (hS2 _ hbO2) fun hHeld=>?_;clear hK K;refine tk 19 58 ?_;refine tk 20 59 ?_;refine tk 21 60 ?_;refine ry 22 fun K hK=>?_;have hG0:=HG.out.up hbO2;have hs0:=hS2 _ hbO2;have qf:=hG0.frozen;have ql:=hG0.lt;have q9:=hG0.box.2 3 _ rfl;go_simp;clear qf ql q9;have hG1:=hG0.set_ 3 (.slice Ao no co);have hs1:=hS4 _ 3 (.slice Ao no co) hs0;refine hk hK (hs1) fun hHeld=>?_;clear hK K;refine tk 23 61 ?_;refine tk 24 62 ?_;refine tk 25 63 ?_;refine ry 26 fun K hK=>?_;have qf:=hG1.frozen;have ql:=hG1.lt;have q9:=hG1.box.2 2 _ rfl;go_simp;clear qf ql q9;have hG2:=hG1.set_ 2 (.int .i64 (D.next+1));have hs2:=hS4 _ 2 (.int .i64 (D.next+1)) hs1;refine hk hK (hs2) fun hHeld=>?_;clear hK K;refine tk 27 64 ?_;refine tk 28 65 ?_;refine tk 29 66 ?_;refine ry 30 fun K hK=>?_;have qf:=hG2.frozen;have ql:=hG2.lt;have q9:=hG2.box.2 4 _ rfl;go_simp;clear qf ql q9;have hG3:=hG2.set_ 4 (.int .i64 0);have hs3:=hS4 _ 4 (.int .i64 0) hs2;refine hk hK (hs3) fun hHeld=>?_;clear hK K;refine wz ?_;go_wp2_with fail
      go_meet
      have ht1:=((aC.setg (o:=3) (u:=.slice Ao no co) hG0).trans (aC.setg (o:=2) (u:=.int .i64 (D.next+1)) hG1)).trans (aC.setg (o:=4) (u:=.int .i64 0) hG2);exact ⟨Ao,no,co,hG3,by rw [←HDR.out];exact aR ho5' ht1 y5,(aC.of_below hbO2).trans ht1,((((hb3X.trans (hbO2.mono hb3X.size)).setCell (p:=⟨g,3,none⟩) hg3 _).setCell (p:=⟨g,2,none⟩) hg3 _).setCell (p:=⟨g,4,none⟩) hg3 _)⟩
  · skip
    have q9:=hc2 _ (hbd);go_simp;clear q9;refine hk hK (hS2 _ (hbd)) fun hHeld=>?_;clear hK K;refine tk 18 57 ?_;refine ry 7 fun K hK=>?_;have q9:=hc3 _ (hbd);go_simp;clear q9;refine hk hK (hS2 _ (hbd)) fun hHeld=>?_;clear hK K;refine tk 11 50 ?_;refine ry 12 fun K hK=>?_;go_simp;(go_at_call 113;refine (fL (some ⟨go,bn*4,none⟩) (on-bn) _ (D.op.drop bn) _ (HTD.out _ (hbd)) y2).mono ?_;rintro e wo ⟨vo,rfl,ho5,hbO⟩;obtain ⟨Ao,co,eo,-⟩:=ho5.txs y82;rw [HNO.out] at eo;subst eo)
    have hbO2:=aA (hbd) hbO;have ho5':=ho5.mono (B':=X2.heap.size) ((hbd).size);refine hk hK (hS2 _ hbO2) fun hHeld=>?_;clear hK K;refine tk 19 58 ?_;refine tk 20 59 ?_;refine tk 21 60 ?_;refine ry 22 fun K hK=>?_;have hG0:=HG.out.up hbO2;have hs0:=hS2 _ hbO2;have qf:=hG0.frozen;have ql:=hG0.lt;have q9:=hG0.box.2 3 _ rfl;go_simp;clear qf ql q9;have hG1:=hG0.set_ 3 (.slice Ao no co);have hs1:=hS4 _ 3 (.slice Ao no co) hs0;refine hk hK (hs1) fun hHeld=>?_;clear hK K;refine tk 23 61 ?_;refine tk 24 62 ?_;refine tk 25 63 ?_;refine ry 26 fun K hK=>?_;have qf:=hG1.frozen;have ql:=hG1.lt;have q9:=hG1.box.2 2 _ rfl;go_simp;clear qf ql q9;have hG2:=hG1.set_ 2 (.int .i64 (D.next+1));have hs2:=hS4 _ 2 (.int .i64 (D.next+1)) hs1;refine hk hK (hs2) fun hHeld=>?_;clear hK K;refine tk 27 64 ?_;refine tk 28 65 ?_;refine tk 29 66 ?_;refine ry 30 fun K hK=>?_;have qf:=hG2.frozen;have ql:=hG2.lt;have q9:=hG2.box.2 4 _ rfl;go_simp;clear qf ql q9;have hG3:=hG2.set_ 4 (.int .i64 0);have hs3:=hS4 _ 4 (.int .i64 0) hs2;refine hk hK (hs3) fun hHeld=>?_;clear hK K;refine wz ?_;go_wp2_with fail
    go_meet
    have ht1:=((aC.setg (o:=3) (u:=.slice Ao no co) hG0).trans (aC.setg (o:=2) (u:=.int .i64 (D.next+1)) hG1)).trans (aC.setg (o:=4) (u:=.int .i64 0) hG2);exact ⟨Ao,no,co,hG3,by rw [←HDR.out];exact aR ho5' ht1 y5,(aC.of_below hbO2).trans ht1,((((hb3X.trans (hbO2.mono hb3X.size)).setCell (p:=⟨g,3,none⟩) hg3 _).setCell (p:=⟨g,2,none⟩) hg3 _).setCell (p:=⟨g,4,none⟩) hg3 _)⟩
 case rest=>
 obtain ⟨A1,n1,c1,hG1,hop1,htk1,hb1c⟩:=hcut;refine nm wc fun Xc hXc=>?_;subst hXc;have HG1:=ħ hG1;have HOP1:=ħ hop1;have hbc:Below w w Xc:=hb3w.trans (hb1c.mono hb3w.size);have hgc:=hG1.lt;have HWc:Hid (aX Xc B ⟨⟨some ⟨go,0,none⟩,on,oc⟩,⟨tA,tn,tc⟩,⟨eA,en,ec⟩,⟨rA,rn,rc⟩⟩ D):=ħ (HOX.out.tk htk1 eF);have HBc:Hid (bD Xc w.heap.size (.slice bA bn bc) (D.op.take 8)):=ħ (aZ (aR HB2.out htk1 y5) (by have:=hbX.size;omega));have HQc:=ħ (HQ7.out.tk htk1 y5);have HVc:=ħ (HV1.out.tk htk1 y5);have hBc:B≤Xc.heap.size:=Nat.le_trans hB hbc.size
 have HTXc:Hid (bZ Xc bA bn (D.op.take 8)):=ħ (by
  obtain ⟨A',c',e',h1,_⟩:=HBc.out.txs y69;injection e' with e1 e2 e3;rw [HBN.out] at h1;rw [e1];exact h1)
 obtain ⟨b_0,b_1,b_2⟩:=bx3 HQc.out.box;have hq7l:=HQc.out.lt;clear hG1 hop1 htk1 HOX HB2 HQ7 HV1 HG hgl;go_upto_region 12 with (go_at_call 119;refine (yM g B A1 tA eA rA none bA n1 c1 tn tc en ec rn rc 0 0 bn bc ({D with op:=D.op.drop 8,next:=D.next+1,age:=0}) d (nxD D) Xc HG1.out hBc HWc.out.he HS.out.he (BN.sorted (fD.1 HM.out.2.2.2.2.2.2.2.2.2.2.1)) HTXc.out y2).mono ?_;rintro e wh ⟨Xh,A3,n3,c3,rfl,rfl,hbh,hhe⟩)
 refine mn (eK D.wa d) fun lw hlw=>?_;refine mn (eW D.wa d) fun yw hyw=>?_;have HLW:=ħ hlw;have HYW:=ħ hyw;have HTN:Hid (D.wa.length=tn):=ħ HW.out.wa.1;have htn:tn≤700000000:=by rw [←HTN.out];have:=HRE.out;omega
 have hlwn:lw≤tn:=by rw [←HLW.out,← HTN.out];exact gD _ _
 clear hlw hyw;have hGh:=HG1.out.up hbh;refine nm (Xh.setCell ⟨g,7,none⟩ (.slice A3 n3 c3)) fun Xd hXd=>?_;rw [←hXd];have hGd:Blk Xd g 142 [D.id,D.nodes,.int .i64 (D.next+1),.slice A1 n1 c1,z0,D.clock,.slice tA tn tc,.slice A3 n3 c3,.slice rA rn rc,n0]:=by rw [hXd];exact hGh.set_ 7 _
 have htkd:aC 142 Xc Xd:=by rw [hXd];exact (aC.of_below hbh).trans (aC.setg hGh)
 have hhd:bL Xd B (.slice A3 n3 c3) (bM D.he (bB D.he d) ⟨d,nxD D⟩):=by rw [hXd];exact hhe.tk (aC.setg hGh) eF
 have hbXd:Below w w Xd:=by rw [hXd];exact (hbc.trans (hbh.mono hbc.size)).setCell (p:=⟨g,7,none⟩) (by show w.heap.size≤g;omega) _
 have HGd:=ħ hGd;have HWd:=ħ (HWc.out.tk htkd eF);have HBd:=ħ (aR HBc.out htkd y5);have HQd:=ħ (HQc.out.tk htkd y5);have HVd:=ħ (HVc.out.tk htkd y5);have HOPd:Hid (bD Xd X2.heap.size (.slice A1 n1 c1) (D.op.drop 8)):=ħ (aR HOP1.out htkd y5);have HHd:=ħ hhd;have hBd:B≤Xd.heap.size:=Nat.le_trans hB hbXd.size;have hgd:=hGd.lt;have hgXc:w.heap.size≤g:=by omega
 have HSW:Hid (yw=false→dR D d=bM D.wa lw ⟨d,[D.id]⟩):=ħ (fun hy=>by unfold dR;rw [HYW.out,hy,HLW.out];rfl);have HSW2:Hid (yw=true→dR D d=D.wa):=ħ (fun hy=>by unfold dR;rw [HYW.out,hy];rfl);clear hXd hGh hGd htkd hhd HG1 HWc HBc HQc HVc HOP1 b_0 b_1 b_2 hq7l hbh hhe hgc;have HWT:Hid (eC Xd tA tn D.wa):=ħ (HWd.out.work HS.out).wa;obtain ⟨a_0,a_1,a_2,a_3,a_4,a_5,a_6,a_7,a_8,a_9⟩:=gO HGd.out.box
 go_upto_if 82 with (go_at_call 120;refine (nE tA tn tc D.wa d lw yw _ HWT.out (WaitsOk.sorted HM.out.2.2.2.2.2.2.2.2.2.1) y2 HLW.out HYW.out).mono ?_;rintro e wv ⟨rfl,hbv⟩)
 clear a_0 a_1 a_2 a_3 a_4 a_5 a_6 a_7 a_8 a_9
 go_cut [] from 81 to 103 (fun wx=>∃(At:Option Addr) (nt ct:Nat),Blk wx g 142 [D.id,D.nodes,.int .i64 (D.next+1),.slice A1 n1 c1,z0,D.clock,.slice At nt ct,.slice A3 n3 c3,.slice rA rn rc,n0]∧cR wx B (.slice At nt ct) (dR D d)∧aC 142 Xd wx∧Below w w wx)
 case first=>
  obtain ⟨qs,hqt⟩:=HWd.out.wa;have HQT:=ħ hqt;have HGv:=ħ (HGd.out.up hbv);have hgv:=HGv.out.lt;cases yw
  · have HSWf:=ħ (HSW.out rfl);clear hqt HSW HSW2;go_upto_region 14 with fail
    obtain ⟨S,hS⟩:∃S:World→Prop,S=fun Y=>Y.cell? ⟨g,0,none⟩=some (.int .i64 D.id):=⟨_,rfl⟩;have hS1:∀Y,S Y→Y.cell? ⟨g,0,none⟩=some (.int .i64 D.id):=fun Y h=>by rw [hS] at h;exact h
    have hS2:∀Y,Below Xd Xd Y→S Y:=fun Y hY=>by rw [hS];exact (HGd.out.up hY).box.2 0 _ rfl
    have hS4:∀Y o u,S Y→S (Y.setCell ⟨g,o+1,none⟩ u):=fun Y o u h=>by rw [hS] at h ⊢;dsimp only at h ⊢;exact (World.cell?_setCell_other _ _ _ _ y15).trans h
    have hc6:∀Y,Below Xd Xd Y→Y.cell? ⟨g,6,none⟩=some (.slice tA tn tc):=fun Y hY=>(HGd.out.up hY).box.2 6 _ rfl
    have HRV:Hid (iI Xd tA tn 2 (aO aN D.wa qs)):=ħ (by
     have h9:World.ownsRow Xd B 56 2 (.slice tA tn tc) D.wa.length (aO aN D.wa qs):=HQT.out.1;rw [HTN.out] at h9;obtain ⟨A2,c2,e2,hrv,_⟩:=dC h9 y2;injection e2 with e3 e4 e5;rw [e3];exact hrv)
    clear hS;refine wp_region_held_drew (S:=S) y8 (hS2 _ (aM hbv)) (fun hHeld=>?_);have hbd:Below Xd Xd wv.drew:=aM hbv;have hZ:=hHeld;generalize wv.drew=Z at *;refine tk 0 83 ?_;refine tk 1 84 ?_;refine tk 2 85 ?_;refine tk 3 86 ?_;refine tk 4 87 ?_;refine tk 7 90 ?_;refine tk 8 91 ?_;refine tk 9 92 ?_;refine tk 10 93 ?_;refine tk 11 94 ?_;refine tk 12 95 ?_;refine tq 13 96 hS1 ?_;refine ry2 5 14 (fun K hK=>?_) fun K hK=>?_
    · skip
      have q9:=hc6 _ (hbd);go_simp;clear q9;refine hk hK (hS2 _ (hbd)) fun hHeld=>?_;clear hK K;refine ry2 6 14 (fun K hK=>?_) fun K hK=>?_
      · skip
        go_simp;(go_at_call 122;refine (dM tA tn tc (aO aN D.wa qs) _ (HRV.out.up (hbd)) HQT.out.one y2).mono ?_;rintro e wl ⟨vl,rfl,hol,hbl⟩;obtain ⟨Al,cl,rfl,-⟩:=dC hol y2)
        have hbl2:=aA (hbd) hbl;have hol':=aZ (B':=Xd.heap.size) hol ((hbd).size);refine hk hK (hS2 _ hbl2) fun hHeld=>?_;clear hK K;refine ry 14 fun K hK=>?_;go_simp;refine nm wl.heap.size fun NA hNA=>?_;obtain ⟨ZA,hZA⟩:∃Zq:World,Zq=wl.alloc (.cells #[D.id] 3):=⟨_,rfl⟩;rw [←hNA,← hZA];have hkA:Blk ZA NA 3 [D.id]:=by rw [hZA,hNA];exact Blk.new _ 3 [D.id]
        have hbA:Below wl wl ZA:=by rw [hZA];exact aB (Below.refl _ _)
        have hbA2:=aA (hbl2) hbA;have hNA2:Xd.heap.size≤NA:=by rw [hNA];exact (hbl2).size
        clear hNA hZA;refine hk hK (hS2 _ hbA2) fun hHeld=>?_;clear hK K;refine tk 15 98 ?_;refine ry 16 fun K hK=>?_;go_simp;refine nm ZA.heap.size fun NB hNB=>?_;obtain ⟨ZB,hZB⟩:∃Zq:World,Zq=ZA.alloc (.cells #[d,.slice (some ⟨NA,0,none⟩) 1 1] 56):=⟨_,rfl⟩;rw [←hNB,← hZB];have hkB:Blk ZB NB 56 [d,.slice (some ⟨NA,0,none⟩) 1 1]:=by rw [hZB,hNB];exact Blk.new _ 56 [d,.slice (some ⟨NA,0,none⟩) 1 1]
        have hbB:Below ZA ZA ZB:=by rw [hZB];exact aB (Below.refl _ _)
        have hbB2:=aA (hbA2) hbB;have hNB2:Xd.heap.size≤NB:=by rw [hNB];exact (hbA2).size
        have hNB5:ZA.heap.size≤NB:=by rw [hNB];exact Nat.le_refl _
        clear hNB hZB;refine hk hK (hS2 _ hbB2) fun hHeld=>?_;clear hK K;refine ry 17 fun K hK=>?_;go_simp;have hown9:=(bS (bS hol' hbA) hbB);have hkA9:=(hkA.up hbB);have hkB9:=hkB;(go_at_call 121;refine (eE _ Xd.heap.size (.slice Al tn cl) tn lw (aO aN D.wa qs) [d,.slice (some ⟨NA,0,none⟩) 1 1] NB hown9 hlwn y2 hkB9 (fun hq=>by (have hq2:=bV hol _ hq);(have hq3:=hkB.lt);(have hq4:=hbA.size);(have hq5:=hbB.size);(have hq6:=hbl.size);(have hq7:=hNB5);omega) HQT.out.one y16 rfl ((hbB2).size)).mono ?_;rintro e wi ⟨vi,rfl,howi,hbI,hgI,-⟩;obtain ⟨Ai,ci,rfl,-⟩:=dC howi y2)
        have hOTi:=aP.ins (T:=aN) (x:=⟨d,[D.id]⟩) (p:=.slice (some ⟨NA,0,none⟩) 1 1) (i:=lw) (B:=B) ⟨by rw [HTN.out];exact aZ hown9 hBd,HQT.out.2.1,fun j hj=>(HQT.out.2.2 j hj).up (hbB2)⟩ y70 (iG hkA9 y2) y52 hgI;have hbI2:Below Xd Xd wi:=(hbB2).trans hbI;have hG0:=HGd.out.up hbI2;refine hk hK (hS2 _ hbI2) fun hHeld=>?_;clear hK K;refine tk 18 101 ?_;refine tk 19 102 ?_;refine tk 20 103 ?_;refine ry 21 fun K hK=>?_;have qf:=hG0.frozen;have ql:=hG0.lt;have q9:=hG0.box.2 6 _ rfl;go_simp;clear qf ql q9;have hG1:=hG0.set_ 6 (.slice Ai (tn+1) ci);refine hk hK (hS4 _ 5 _ (hS2 _ hbI2)) fun hHeld=>?_;clear hK K;refine wz ?_;go_wp2_with fail
        go_meet
        have ht1:=aC.setg (o:=6) (u:=.slice Ai (tn+1) ci) hG0;exact ⟨Ai,tn+1,ci,hG1,cR.tk ⟨_,by rw [HSWf.out];exact hOTi⟩ ht1 eF,(aC.of_below hbI2).trans ht1,(hbXd.trans (hbI2.mono hbXd.size)).setCell (p:=⟨g,6,none⟩) hgXc _⟩
      · skip
        go_simp;refine nm Z.heap.size fun NA hNA=>?_;obtain ⟨ZA,hZA⟩:∃Zq:World,Zq=Z.alloc (.cells #[D.id] 3):=⟨_,rfl⟩;rw [←hNA,← hZA];have hkA:Blk ZA NA 3 [D.id]:=by rw [hZA,hNA];exact Blk.new _ 3 [D.id]
        have hbA:Below Z Z ZA:=by rw [hZA];exact aB (Below.refl _ _)
        have hbA2:=aA (hbd) hbA;have hNA2:Xd.heap.size≤NA:=by rw [hNA];exact (hbd).size
        clear hNA hZA;refine hk hK (hS2 _ hbA2) fun hHeld=>?_;clear hK K;refine tk 15 98 ?_;refine ry2 6 16 (fun K hK=>?_) fun K hK=>?_
        · skip
          go_simp;(go_at_call 122;refine (dM tA tn tc (aO aN D.wa qs) _ (HRV.out.up (hbA2)) HQT.out.one y2).mono ?_;rintro e wl ⟨vl,rfl,hol,hbl⟩;obtain ⟨Al,cl,rfl,-⟩:=dC hol y2)
          have hbl2:=aA (hbA2) hbl;have hol':=aZ (B':=Xd.heap.size) hol ((hbA2).size);refine hk hK (hS2 _ hbl2) fun hHeld=>?_;clear hK K;refine ry 16 fun K hK=>?_;go_simp;refine nm wl.heap.size fun NB hNB=>?_;obtain ⟨ZB,hZB⟩:∃Zq:World,Zq=wl.alloc (.cells #[d,.slice (some ⟨NA,0,none⟩) 1 1] 56):=⟨_,rfl⟩;rw [←hNB,← hZB];have hkB:Blk ZB NB 56 [d,.slice (some ⟨NA,0,none⟩) 1 1]:=by rw [hZB,hNB];exact Blk.new _ 56 [d,.slice (some ⟨NA,0,none⟩) 1 1]
          have hbB:Below wl wl ZB:=by rw [hZB];exact aB (Below.refl _ _)
          have hbB2:=aA (hbl2) hbB;have hNB2:Xd.heap.size≤NB:=by rw [hNB];exact (hbl2).size
          have hNB5:wl.heap.size≤NB:=by rw [hNB];exact Nat.le_refl _
          clear hNB hZB;refine hk hK (hS2 _ hbB2) fun hHeld=>?_;clear hK K;refine ry 17 fun K hK=>?_;go_simp;have hown9:=(bS hol' hbB);have hkA9:=((hkA.up hbl).up hbB);have hkB9:=hkB;(go_at_call 121;refine (eE _ Xd.heap.size (.slice Al tn cl) tn lw (aO aN D.wa qs) [d,.slice (some ⟨NA,0,none⟩) 1 1] NB hown9 hlwn y2 hkB9 (fun hq=>by (have hq2:=bV hol _ hq);(have hq3:=hkB.lt);(have hq4:=hbA.size);(have hq5:=hbB.size);(have hq6:=hbl.size);(have hq7:=hNB5);omega) HQT.out.one y16 rfl ((hbB2).size)).mono ?_;rintro e wi ⟨vi,rfl,howi,hbI,hgI,-⟩;obtain ⟨Ai,ci,rfl,-⟩:=dC howi y2)
          have hOTi:=aP.ins (T:=aN) (x:=⟨d,[D.id]⟩) (p:=.slice (some ⟨NA,0,none⟩) 1 1) (i:=lw) (B:=B) ⟨by rw [HTN.out];exact aZ hown9 hBd,HQT.out.2.1,fun j hj=>(HQT.out.2.2 j hj).up (hbB2)⟩ y70 (iG hkA9 y2) y52 hgI;have hbI2:Below Xd Xd wi:=(hbB2).trans hbI;have hG0:=HGd.out.up hbI2;refine hk hK (hS2 _ hbI2) fun hHeld=>?_;clear hK K;refine tk 18 101 ?_;refine tk 19 102 ?_;refine tk 20 103 ?_;refine ry 21 fun K hK=>?_;have qf:=hG0.frozen;have ql:=hG0.lt;have q9:=hG0.box.2 6 _ rfl;go_simp;clear qf ql q9;have hG1:=hG0.set_ 6 (.slice Ai (tn+1) ci);refine hk hK (hS4 _ 5 _ (hS2 _ hbI2)) fun hHeld=>?_;clear hK K;refine wz ?_;go_wp2_with fail
          go_meet
          have ht1:=aC.setg (o:=6) (u:=.slice Ai (tn+1) ci) hG0;exact ⟨Ai,tn+1,ci,hG1,cR.tk ⟨_,by rw [HSWf.out];exact hOTi⟩ ht1 eF,(aC.of_below hbI2).trans ht1,(hbXd.trans (hbI2.mono hbXd.size)).setCell (p:=⟨g,6,none⟩) hgXc _⟩
        · skip
          go_simp;refine nm ZA.heap.size fun NB hNB=>?_;obtain ⟨ZB,hZB⟩:∃Zq:World,Zq=ZA.alloc (.cells #[d,.slice (some ⟨NA,0,none⟩) 1 1] 56):=⟨_,rfl⟩;rw [←hNB,← hZB];have hkB:Blk ZB NB 56 [d,.slice (some ⟨NA,0,none⟩) 1 1]:=by rw [hZB,hNB];exact Blk.new _ 56 [d,.slice (some ⟨NA,0,none⟩) 1 1]
          have hbB:Below ZA ZA ZB:=by rw [hZB];exact aB (Below.refl _ _)
          have hbB2:=aA (hbA2) hbB;have hNB2:Xd.heap.size≤NB:=by rw [hNB];exact (hbA2).size
          have hNB5:ZA.heap.size≤NB:=by rw [hNB];exact Nat.le_refl _
          clear hNB hZB;refine hk hK (hS2 _ hbB2) fun hHeld=>?_;clear hK K;refine ry 6 fun K hK=>?_;go_simp;(go_at_call 122;refine (dM tA tn tc (aO aN D.wa qs) _ (HRV.out.up (hbB2)) HQT.out.one y2).mono ?_;rintro e wl ⟨vl,rfl,hol,hbl⟩;obtain ⟨Al,cl,rfl,-⟩:=dC hol y2)
          have hbl2:=aA (hbB2) hbl;have hol':=aZ (B':=Xd.heap.size) hol ((hbB2).size);refine hk hK (hS2 _ hbl2) fun hHeld=>?_;clear hK K;refine ry 17 fun K hK=>?_;go_simp;have hown9:=hol';have hkA9:=((hkA.up hbB).up hbl);have hkB9:=(hkB.up hbl);(go_at_call 121;refine (eE _ Xd.heap.size (.slice Al tn cl) tn lw (aO aN D.wa qs) [d,.slice (some ⟨NA,0,none⟩) 1 1] NB hown9 hlwn y2 hkB9 (fun hq=>by (have hq2:=bV hol _ hq);(have hq3:=hkB.lt);(have hq4:=hbA.size);(have hq5:=hbB.size);(have hq6:=hbl.size);(have hq7:=hNB5);omega) HQT.out.one y16 rfl ((hbl2).size)).mono ?_;rintro e wi ⟨vi,rfl,howi,hbI,hgI,-⟩;obtain ⟨Ai,ci,rfl,-⟩:=dC howi y2)
          have hOTi:=aP.ins (T:=aN) (x:=⟨d,[D.id]⟩) (p:=.slice (some ⟨NA,0,none⟩) 1 1) (i:=lw) (B:=B) ⟨by rw [HTN.out];exact aZ hown9 hBd,HQT.out.2.1,fun j hj=>(HQT.out.2.2 j hj).up (hbl2)⟩ y70 (iG hkA9 y2) y52 hgI;have hbI2:Below Xd Xd wi:=(hbl2).trans hbI;have hG0:=HGd.out.up hbI2;refine hk hK (hS2 _ hbI2) fun hHeld=>?_;clear hK K;refine tk 18 101 ?_;refine tk 19 102 ?_;refine tk 20 103 ?_;refine ry 21 fun K hK=>?_;have qf:=hG0.frozen;have ql:=hG0.lt;have q9:=hG0.box.2 6 _ rfl;go_simp;clear qf ql q9;have hG1:=hG0.set_ 6 (.slice Ai (tn+1) ci);refine hk hK (hS4 _ 5 _ (hS2 _ hbI2)) fun hHeld=>?_;clear hK K;refine wz ?_;go_wp2_with fail
          go_meet
          have ht1:=aC.setg (o:=6) (u:=.slice Ai (tn+1) ci) hG0;exact ⟨Ai,tn+1,ci,hG1,cR.tk ⟨_,by rw [HSWf.out];exact hOTi⟩ ht1 eF,(aC.of_below hbI2).trans ht1,(hbXd.trans (hbI2.mono hbXd.size)).setCell (p:=⟨g,6,none⟩) hgXc _⟩
    · skip
      go_simp;refine nm Z.heap.size fun NA hNA=>?_;obtain ⟨ZA,hZA⟩:∃Zq:World,Zq=Z.alloc (.cells #[D.id] 3):=⟨_,rfl⟩;rw [←hNA,← hZA];have hkA:Blk ZA NA 3 [D.id]:=by rw [hZA,hNA];exact Blk.new _ 3 [D.id]
      have hbA:Below Z Z ZA:=by rw [hZA];exact aB (Below.refl _ _)
      have hbA2:=aA (hbd) hbA;have hNA2:Xd.heap.size≤NA:=by rw [hNA];exact (hbd).size
      clear hNA hZA;refine hk hK (hS2 _ hbA2) fun hHeld=>?_;clear hK K;refine tk 15 98 ?_;refine ry2 5 16 (fun K hK=>?_) fun K hK=>?_
      · skip
        have q9:=hc6 _ (hbA2);go_simp;clear q9;refine hk hK (hS2 _ (hbA2)) fun hHeld=>?_;clear hK K;refine ry2 6 16 (fun K hK=>?_) fun K hK=>?_
        · skip
          go_simp;(go_at_call 122;refine (dM tA tn tc (aO aN D.wa qs) _ (HRV.out.up (hbA2)) HQT.out.one y2).mono ?_;rintro e wl ⟨vl,rfl,hol,hbl⟩;obtain ⟨Al,cl,rfl,-⟩:=dC hol y2)
          have hbl2:=aA (hbA2) hbl;have hol':=aZ (B':=Xd.heap.size) hol ((hbA2).size);refine hk hK (hS2 _ hbl2) fun hHeld=>?_;clear hK K;refine ry 16 fun K hK=>?_;go_simp;refine nm wl.heap.size fun NB hNB=>?_;obtain ⟨ZB,hZB⟩:∃Zq:World,Zq=wl.alloc (.cells #[d,.slice (some ⟨NA,0,none⟩) 1 1] 56):=⟨_,rfl⟩;rw [←hNB,← hZB];have hkB:Blk ZB NB 56 [d,.slice (some ⟨NA,0,none⟩) 1 1]:=by rw [hZB,hNB];exact Blk.new _ 56 [d,.slice (some ⟨NA,0,none⟩) 1 1]
          have hbB:Below wl wl ZB:=by rw [hZB];exact aB (Below.refl _ _)
          have hbB2:=aA (hbl2) hbB;have hNB2:Xd.heap.size≤NB:=by rw [hNB];exact (hbl2).size
          have hNB5:wl.heap.size≤NB:=by rw [hNB];exact Nat.le_refl _
          clear hNB hZB;refine hk hK (hS2 _ hbB2) fun hHeld=>?_;clear hK K;refine ry 17 fun K hK=>?_;go_simp;have hown9:=(bS hol' hbB);have hkA9:=((hkA.up hbl).up hbB);have hkB9:=hkB;(go_at_call 121;refine (eE _ Xd.heap.size (.slice Al tn cl) tn lw (aO aN D.wa qs) [d,.slice (some ⟨NA,0,none⟩) 1 1] NB hown9 hlwn y2 hkB9 (fun hq=>by (have hq2:=bV hol _ hq);(have hq3:=hkB.lt);(have hq4:=hbA.size);(have hq5:=hbB.size);(have hq6:=hbl.size);(have hq7:=hNB5);omega) HQT.out.one y16 rfl ((hbB2).size)).mono ?_;rintro e wi ⟨vi,rfl,howi,hbI,hgI,-⟩;obtain ⟨Ai,ci,rfl,-⟩:=dC howi y2)
          have hOTi:=aP.ins (T:=aN) (x:=⟨d,[D.id]⟩) (p:=.slice (some ⟨NA,0,none⟩) 1 1) (i:=lw) (B:=B) ⟨by rw [HTN.out];exact aZ hown9 hBd,HQT.out.2.1,fun j hj=>(HQT.out.2.2 j hj).up (hbB2)⟩ y70 (iG hkA9 y2) y52 hgI;have hbI2:Below Xd Xd wi:=(hbB2).trans hbI;have hG0:=HGd.out.up hbI2;refine hk hK (hS2 _ hbI2) fun hHeld=>?_;clear hK K;refine tk 18 101 ?_;refine tk 19 102 ?_;refine tk 20 103 ?_;refine ry 21 fun K hK=>?_;have qf:=hG0.frozen;have ql:=hG0.lt;have q9:=hG0.box.2 6 _ rfl;go_simp;clear qf ql q9;have hG1:=hG0.set_ 6 (.slice Ai (tn+1) ci);refine hk hK (hS4 _ 5 _ (hS2 _ hbI2)) fun hHeld=>?_;clear hK K;refine wz ?_;go_wp2_with fail
          go_meet
          have ht1:=aC.setg (o:=6) (u:=.slice Ai (tn+1) ci) hG0;exact ⟨Ai,tn+1,ci,hG1,cR.tk ⟨_,by rw [HSWf.out];exact hOTi⟩ ht1 eF,(aC.of_below hbI2).trans ht1,(hbXd.trans (hbI2.mono hbXd.size)).setCell (p:=⟨g,6,none⟩) hgXc _⟩
        · skip
          go_simp;refine nm ZA.heap.size fun NB hNB=>?_;obtain ⟨ZB,hZB⟩:∃Zq:World,Zq=ZA.alloc (.cells #[d,.slice (some ⟨NA,0,none⟩) 1 1] 56):=⟨_,rfl⟩;rw [←hNB,← hZB];have hkB:Blk ZB NB 56 [d,.slice (some ⟨NA,0,none⟩) 1 1]:=by rw [hZB,hNB];exact Blk.new _ 56 [d,.slice (some ⟨NA,0,none⟩) 1 1]
          have hbB:Below ZA ZA ZB:=by rw [hZB];exact aB (Below.refl _ _)
          have hbB2:=aA (hbA2) hbB;have hNB2:Xd.heap.size≤NB:=by rw [hNB];exact (hbA2).size
          have hNB5:ZA.heap.size≤NB:=by rw [hNB];exact Nat.le_refl _
          clear hNB hZB;refine hk hK (hS2 _ hbB2) fun hHeld=>?_;clear hK K;refine ry 6 fun K hK=>?_;go_simp;(go_at_call 122;refine (dM tA tn tc (aO aN D.wa qs) _ (HRV.out.up (hbB2)) HQT.out.one y2).mono ?_;rintro e wl ⟨vl,rfl,hol,hbl⟩;obtain ⟨Al,cl,rfl,-⟩:=dC hol y2)
          have hbl2:=aA (hbB2) hbl;have hol':=aZ (B':=Xd.heap.size) hol ((hbB2).size);refine hk hK (hS2 _ hbl2) fun hHeld=>?_;clear hK K;refine ry 17 fun K hK=>?_;go_simp;have hown9:=hol';have hkA9:=((hkA.up hbB).up hbl);have hkB9:=(hkB.up hbl);(go_at_call 121;refine (eE _ Xd.heap.size (.slice Al tn cl) tn lw (aO aN D.wa qs) [d,.slice (some ⟨NA,0,none⟩) 1 1] NB hown9 hlwn y2 hkB9 (fun hq=>by (have hq2:=bV hol _ hq);(have hq3:=hkB.lt);(have hq4:=hbA.size);(have hq5:=hbB.size);(have hq6:=hbl.size);(have hq7:=hNB5);omega) HQT.out.one y16 rfl ((hbl2).size)).mono ?_;rintro e wi ⟨vi,rfl,howi,hbI,hgI,-⟩;obtain ⟨Ai,ci,rfl,-⟩:=dC howi y2)
          have hOTi:=aP.ins (T:=aN) (x:=⟨d,[D.id]⟩) (p:=.slice (some ⟨NA,0,none⟩) 1 1) (i:=lw) (B:=B) ⟨by rw [HTN.out];exact aZ hown9 hBd,HQT.out.2.1,fun j hj=>(HQT.out.2.2 j hj).up (hbl2)⟩ y70 (iG hkA9 y2) y52 hgI;have hbI2:Below Xd Xd wi:=(hbl2).trans hbI;have hG0:=HGd.out.up hbI2;refine hk hK (hS2 _ hbI2) fun hHeld=>?_;clear hK K;refine tk 18 101 ?_;refine tk 19 102 ?_;refine tk 20 103 ?_;refine ry 21 fun K hK=>?_;have qf:=hG0.frozen;have ql:=hG0.lt;have q9:=hG0.box.2 6 _ rfl;go_simp;clear qf ql q9;have hG1:=hG0.set_ 6 (.slice Ai (tn+1) ci);refine hk hK (hS4 _ 5 _ (hS2 _ hbI2)) fun hHeld=>?_;clear hK K;refine wz ?_;go_wp2_with fail
          go_meet
          have ht1:=aC.setg (o:=6) (u:=.slice Ai (tn+1) ci) hG0;exact ⟨Ai,tn+1,ci,hG1,cR.tk ⟨_,by rw [HSWf.out];exact hOTi⟩ ht1 eF,(aC.of_below hbI2).trans ht1,(hbXd.trans (hbI2.mono hbXd.size)).setCell (p:=⟨g,6,none⟩) hgXc _⟩
      · skip
        go_simp;refine nm ZA.heap.size fun NB hNB=>?_;obtain ⟨ZB,hZB⟩:∃Zq:World,Zq=ZA.alloc (.cells #[d,.slice (some ⟨NA,0,none⟩) 1 1] 56):=⟨_,rfl⟩;rw [←hNB,← hZB];have hkB:Blk ZB NB 56 [d,.slice (some ⟨NA,0,none⟩) 1 1]:=by rw [hZB,hNB];exact Blk.new _ 56 [d,.slice (some ⟨NA,0,none⟩) 1 1]
        have hbB:Below ZA ZA ZB:=by rw [hZB];exact aB (Below.refl _ _)
        have hbB2:=aA (hbA2) hbB;have hNB2:Xd.heap.size≤NB:=by rw [hNB];exact (hbA2).size
        have hNB5:ZA.heap.size≤NB:=by rw [hNB];exact Nat.le_refl _
        clear hNB hZB;refine hk hK (hS2 _ hbB2) fun hHeld=>?_;clear hK K;refine ry 5 fun K hK=>?_;have q9:=hc6 _ (hbB2);go_simp;clear q9;refine hk hK (hS2 _ (hbB2)) fun hHeld=>?_;clear hK K;refine ry 6 fun K hK=>?_;go_simp;(go_at_call 122;refine (dM tA tn tc (aO aN D.wa qs) _ (HRV.out.up (hbB2)) HQT.out.one y2).mono ?_;rintro e wl ⟨vl,rfl,hol,hbl⟩;obtain ⟨Al,cl,rfl,-⟩:=dC hol y2)
        have hbl2:=aA (hbB2) hbl;have hol':=aZ (B':=Xd.heap.size) hol ((hbB2).size);refine hk hK (hS2 _ hbl2) fun hHeld=>?_;clear hK K;refine ry 17 fun K hK=>?_;go_simp;have hown9:=hol';have hkA9:=((hkA.up hbB).up hbl);have hkB9:=(hkB.up hbl);(go_at_call 121;refine (eE _ Xd.heap.size (.slice Al tn cl) tn lw (aO aN D.wa qs) [d,.slice (some ⟨NA,0,none⟩) 1 1] NB hown9 hlwn y2 hkB9 (fun hq=>by (have hq2:=bV hol _ hq);(have hq3:=hkB.lt);(have hq4:=hbA.size);(have hq5:=hbB.size);(have hq6:=hbl.size);(have hq7:=hNB5);omega) HQT.out.one y16 rfl ((hbl2).size)).mono ?_;rintro e wi ⟨vi,rfl,howi,hbI,hgI,-⟩;obtain ⟨Ai,ci,rfl,-⟩:=dC howi y2)
        have hOTi:=aP.ins (T:=aN) (x:=⟨d,[D.id]⟩) (p:=.slice (some ⟨NA,0,none⟩) 1 1) (i:=lw) (B:=B) ⟨by rw [HTN.out];exact aZ hown9 hBd,HQT.out.2.1,fun j hj=>(HQT.out.2.2 j hj).up (hbl2)⟩ y70 (iG hkA9 y2) y52 hgI;have hbI2:Below Xd Xd wi:=(hbl2).trans hbI;have hG0:=HGd.out.up hbI2;refine hk hK (hS2 _ hbI2) fun hHeld=>?_;clear hK K;refine tk 18 101 ?_;refine tk 19 102 ?_;refine tk 20 103 ?_;refine ry 21 fun K hK=>?_;have qf:=hG0.frozen;have ql:=hG0.lt;have q9:=hG0.box.2 6 _ rfl;go_simp;clear qf ql q9;have hG1:=hG0.set_ 6 (.slice Ai (tn+1) ci);refine hk hK (hS4 _ 5 _ (hS2 _ hbI2)) fun hHeld=>?_;clear hK K;refine wz ?_;go_wp2_with fail
        go_meet
        have ht1:=aC.setg (o:=6) (u:=.slice Ai (tn+1) ci) hG0;exact ⟨Ai,tn+1,ci,hG1,cR.tk ⟨_,by rw [HSWf.out];exact hOTi⟩ ht1 eF,(aC.of_below hbI2).trans ht1,(hbXd.trans (hbI2.mono hbXd.size)).setCell (p:=⟨g,6,none⟩) hgXc _⟩
  · have HSWt:=ħ (HSW2.out rfl);clear hqt HSW HSW2;go_wp2_with fail
    go_meet
    exact ⟨tA,tn,tc,HGv.out,by rw [HSWt.out];exact HWd.out.wa.up hbv,aC.of_below hbv,aA hbXd hbv⟩
 case rest=>
 obtain ⟨At,nt,ct,hG2,hwa2,htk2,hb2c⟩:=hcut;refine nm wc fun Xe hXe=>?_;subst hXe;have HGe:=ħ hG2;have hge:=hG2.lt;have HBe:=ħ (aR HBd.out htk2 y5);have HQe:=ħ (HQd.out.tk htk2 y5);have HVe:=ħ (HVd.out.tk htk2 y5);have HOPe:Hid (bD Xe X2.heap.size (.slice A1 n1 c1) (D.op.drop 8)):=ħ (aR HOPd.out htk2 y5);have HHe:Hid (bL Xe B (.slice A3 n3 c3) (bM D.he (bB D.he d) ⟨d,nxD D⟩)):=ħ (HHd.out.tk htk2 eF);have HRe:Hid (aE Xe B (.slice rA rn rc) D.re):=ħ (aR HWd.out.re htk2 y5);have HWe:=ħ hwa2;have HTKe:Hid (∀X,But Xe.heap.size g Xe X→aC 142 Xe X):=ħ (fun X hX=>aC.of_but HGe.out hX);obtain ⟨b_0,b_1,b_2⟩:=bx3 HQe.out.box;have hq7l:=HQe.out.lt;clear hG2 hwa2 htk2 HGd HWd HBd HQd HVd HOPd HHd HSW HSW2
 go_upto_region 16 with (go_at_call 123;refine (Bo g Xe.heap.size D.id D.nodes d (.int .i64 (D.next+1)) (.slice A1 n1 c1) (.int .i64 0) (.int .i64 D.clock) (.slice At nt ct) (.slice A3 n3 c3) (.slice rA rn rc) (nxD D) bA none none bn bc 0 0 0 0 [] [] [] Xe HGe.out hge (Nat.le_refl _) (aP.nil _ _) y17 hn1 hn16 y2 (fun X hX=>(by
  obtain ⟨A',c',e',h1,_⟩:=bD.txs (aR HBe.out (HTKe.out X hX) y5) y69;injection e' with e1 e2 e3;rw [HBN.out] at h1;rw [e1];exact h1)) (fun X hX=>⟨rfl,by omega,fun h=>absurd h y2⟩)).mono ?_;rintro e w9 ⟨A9,n9,c9,ps9,rfl,hbt9,hG9,hM9⟩)
 have htk9:=HTKe.out w9 hbt9;have hb9w:Below w w w9:=hb2c.trans ((hbt9.below (Nat.le_of_lt hge)).mono hgXc);have HG9:=ħ hG9;have HM9:Hid (dH w9 Xe.heap.size (.slice A9 n9 c9) (dF D.id d (nxD D) [] D.nodes.toNat)):=ħ ⟨ps9,by simpa using hM9⟩;have hg9:=hG9.lt;have hB9:B≤w9.heap.size:=Nat.le_trans hB hb9w.size;have HV9:=ħ (HVe.out.tk htk9 y5);have HOP9:Hid (bD w9 X2.heap.size (.slice A1 n1 c1) (D.op.drop 8)):=ħ (aR HOPe.out htk9 y5);have HH9:=ħ (HHe.out.tk htk9 eF);have HW9:=ħ (HWe.out.tk htk9 eF);have HR9:Hid (aE w9 B (.slice rA rn rc) D.re):=ħ (aR HRe.out htk9 y5);clear htk9 hbt9 hG9 hM9 HTKe HGe HBe HQe HVe HOPe HHe HRe HWe b_0 b_1 b_2 hq7l;go_upto_region 17 with (go_at_call 124;refine (B7 g B A1 At A3 rA A9 n1 c1 nt ct n3 c3 rn rc n9 c9 {D with op:=D.op.drop 8,next:=D.next+1,age:=0,wa:=dR D d} w9 HG9.out hB9 HW9.out HR9.out (Fg HS.out.wa (by have:=HRE.out;omega)) (by have h9:=uC D d;have h8:=HRE.out;show D.re.length+(dR D d).length≤800000000;omega) (Bi HM.out.2.2.2.2.2.2.2.2.2.1 hid1 hid2) hn1 hn16).mono ?_;rintro e wk ⟨Xk,A5,n5,c5,A6,n6,c6,rfl,rfl,hbk,hwk,hrk⟩)
 have hGk:=HG9.out.up hbk;have hGk2:=hGk.set_ 6 (.slice A5 n5 c5);have htk:=(aC.of_below hbk).trans ((aC.setg (o:=6) (u:=.slice A5 n5 c5) hGk).trans (aC.setg (o:=8) (u:=.slice A6 n6 c6) hGk2));have htk3:=(aC.setg (o:=6) (u:=.slice A5 n5 c5) hGk).trans (aC.setg (o:=8) (u:=.slice A6 n6 c6) hGk2);refine nm ((Xk.setCell ⟨g,6,none⟩ (.slice A5 n5 c5)).setCell ⟨g,8,none⟩ (.slice A6 n6 c6)) fun Xf hXf=>?_;have hGf:Blk Xf g 142 ([.int .i64 D.id,.int .i64 D.nodes,.int .i64 (D.next+1),.slice A1 n1 c1,.int .i64 0,.int .i64 D.clock,.slice A5 n5 c5,.slice A3 n3 c3,.slice A6 n6 c6] ++ [.slice A9 n9 c9]):=by rw [hXf];exact hGk2.set_ 8 _
 rw [←hXf] at htk htk3 ⊢;have hbf:Below w w Xf:=by rw [hXf];exact ((hb9w.trans (hbk.mono hb9w.size)).setCell (p:=⟨g,6,none⟩) hgXc _).setCell (p:=⟨g,8,none⟩) hgXc _
 have HGf:=ħ hGf;have HVf:=ħ (HV9.out.tk htk y5);have HOf:Hid (aX Xf B ⟨⟨A1,n1,c1⟩,⟨A5,n5,c5⟩,⟨A3,n3,c3⟩,⟨A6,n6,c6⟩⟩ (cF D d)):=ħ ⟨aZ (aR HOP9.out htk y5) (Nat.le_trans hB hbX2.size),hwk.tk htk3 eF,HH9.out.tk htk eF,aZ (aR hrk htk3 y5) hB9⟩;have HMf:Hid (dH Xf w.heap.size (.slice A9 n9 c9) (dF D.id d (nxD D) [] D.nodes.toNat)):=ħ ((HM9.out.tk htk eF).mono hb2c.size);have hgf:=hGf.lt;have hvf:=HVf.out.lt;clear hXf hGk hGk2 htk htk3 hbk hwk hrk HG9 HV9 HOP9 HH9 HW9 HR9 HM9;refine nm (w.heap.size+1) fun N1 hN1=>?_;rw [←hN1] at HVf hvf ⊢;have hN1w:w.heap.size≤N1:=by omega
 have hgN:g≠N1:=by omega
 clear hN1;obtain ⟨S,hS⟩:∃S:World→Prop,S=fun Y=>Blk Y g 142 ([.int .i64 D.id,.int .i64 D.nodes,.int .i64 (D.next+1),.slice A1 n1 c1,.int .i64 0,.int .i64 D.clock,.slice A5 n5 c5,.slice A3 n3 c3,.slice A6 n6 c6] ++ [.slice A9 n9 c9]):=⟨_,rfl⟩;have hS0:S Xf.drew:=by rw [hS];exact HGf.out.up (aM (Below.refl _ _))
 have hS1:∀Y,S Y→Y.rangeAt g 0 [D.id,D.nodes,.int .i64 (D.next+1),.slice A1 n1 c1,z0,D.clock,.slice A5 n5 c5,.slice A3 n3 c3,.slice A6 n6 c6]:=fun Y h=>by
  rw [hS] at h;intro j u hu;rw [Nat.zero_add];exact h.box.2 j u (by rw [List.getElem?_append_left (by have:=(List.getElem?_eq_some_iff.1 hu).1;exact this)];exact hu)
 have hS3:∀Y,S Y→Y.cell? ⟨g,9,none⟩=some (.slice A9 n9 c9):=fun Y h=>by rw [hS] at h;exact h.box.2 9 _ rfl
 have hS5:∀Y,S Y→∀(a0 a1 a2 a3 a4 a5 a6 a7 a8:Value),S (kA Y N1 a0 a1 a2 a3 a4 a5 a6 a7 a8):=fun Y h a0 a1 a2 a3 a4 a5 a6 a7 a8=>by rw [hS] at h ⊢;exact h.sets9 hgN a0 a1 a2 a3 a4 a5 a6 a7 a8
 clear hS;refine wp_region_held_drew (S:=S) y8 hS0 (fun hHeld=>?_);have hbd:=bdr Xf;have hZ:=hHeld;generalize Xf.drew=Z at *;refine tk 0 110 ?_;refine tk 1 111 ?_;refine tk 2 112 ?_;refine ld 3 113 hS1 underlying27 ?_;refine tk 4 114 ?_;refine tk 5 115 ?_;refine tk 6 116 ?_;refine tq 7 117 hS3 ?_;refine ry 8 fun K hK=>?_;have hVz:=HVf.out.up hbd;have qf:=hVz.frozen;have ql:=hVz.lt;have h9:=hVz.box;obtain ⟨q0,q1,q2,q3,q4,q5,q6,q7,q8⟩:=bx9 h9;clear h9;go_simp;clear qf ql q0 q1 q2 q3 q4 q5 q6 q7 q8;have hW9:=gF hVz rfl (.int .i64 D.id) (.int .i64 D.nodes) (.int .i64 (D.next+1)) (.slice A1 n1 c1) (.int .i64 0) (.int .i64 D.clock) (.slice A5 n5 c5) (.slice A3 n3 c3) (.slice A6 n6 c6);have htz:=aC.sets9 hVz (.int .i64 D.id) (.int .i64 D.nodes) (.int .i64 (D.next+1)) (.slice A1 n1 c1) (.int .i64 0) (.int .i64 D.clock) (.slice A5 n5 c5) (.slice A3 n3 c3) (.slice A6 n6 c6);refine hk hK (hS5 _ hZ (.int .i64 D.id) (.int .i64 D.nodes) (.int .i64 (D.next+1)) (.slice A1 n1 c1) (.int .i64 0) (.int .i64 D.clock) (.slice A5 n5 c5) (.slice A3 n3 c3) (.slice A6 n6 c6)) fun hHeld=>?_;clear hK K;refine tk 9 5 ?_;refine tk 10 6 ?_;refine wz ?_;have hbz:=eX (aA hbf hbd) hN1w (.int .i64 D.id) (.int .i64 D.nodes) (.int .i64 (D.next+1)) (.slice A1 n1 c1) (.int .i64 0) (.int .i64 D.clock) (.slice A5 n5 c5) (.slice A3 n3 c3) (.slice A6 n6 c6);refine nm ((((((((((Z.setCell ⟨N1,0,none⟩ D.id).setCell ⟨N1,1,none⟩ D.nodes).setCell ⟨N1,2,none⟩ (.int .i64 (D.next+1))).setCell ⟨N1,3,none⟩ (.slice A1 n1 c1)).setCell ⟨N1,4,none⟩ z0).setCell ⟨N1,5,none⟩ D.clock).setCell ⟨N1,6,none⟩ (.slice A5 n5 c5)).setCell ⟨N1,7,none⟩ (.slice A3 n3 c3)).setCell ⟨N1,8,none⟩ (.slice A6 n6 c6))) fun Y hY=>?_;rw [←hY] at hW9 htz hbz ⊢;have hWOz:=(HOf.out.up hbd).tk htz aU;have hMz:=(HMf.out.up hbd).tk htz aU;have HWOz:=ħ hWOz;have HMz:=ħ hMz;have HBz:=ħ hbz;obtain ⟨r_0,r_1,r_2,r_3,r_4,r_5,r_6,r_7,r_8⟩:=bx9 hW9.box;clear hY hWOz hMz hbz htz hW9;go_wp2_with fail
 exact bodyPost_ret (v:=.tuple #[.agg #[D.id,D.nodes,.int .i64 (D.next+1),.slice A1 n1 c1,z0,D.clock,.slice A5 n5 c5,.slice A3 n3 c3,.slice A6 n6 c6],.slice A9 n9 c9,z0]) (by simp [results,results88,go_sem,r_0,r_1,r_2,r_3,r_4,r_5,r_6,r_7,r_8]) rfl ⟨⟨⟨A1,n1,c1⟩,⟨A5,n5,c5⟩,⟨A3,n3,c3⟩,⟨A6,n6,c6⟩⟩,A9,n9,c9,rfl,HWOz.out,HMz.out,HBz.out⟩
end Go.Proofs.YtgfakefcmbpboaaGreat
