/- Part 26 of what WorkerExact leans on. No conditions. -/
import Derived.Test.YtgfakefcmbpboaaGreatV25
namespace Go.Proofs.YtgfakefcmbpboaaGreat
set_option linter.all false
set_option maxRecDepth 100000
set_option maxHeartbeats 64000000
open _root_.Go.Proofs.Tryz Go.RowKit
open Tok
theorem yG (P:aF) (D:aD) (w:World) (h:bG w P D) (hs:dY D) :
 Calls prog 17 #[P.val D] w fun e w'=>∃P',e=.returned (P'.val D)∧aX w' w.heap.size P' D∧(∃B2,w.heap.size≤B2∧(∀q,P'.op.v.ownBlock=some q→q<B2)∧bL w' B2 P'.he.v D.he)∧Below w w w':=by
 have HO:Hid (bZ w P.op.A P.op.n D.op):=ħ h.op;have HT:Hid (eC w P.wa.A P.wa.n D.wa):=ħ h.wa;have HE:Hid (dU w P.he.A P.he.n D.he):=ħ h.he;have HR:Hid (aL w P.re.A P.re.n D.re):=ħ h.re;have hon:P.op.n≤800000000:=by rw [←HO.out.1];exact hs.op
 have hrn:P.re.n≤800000000:=by rw [←HR.out.1];exact hs.re
 have HS:=ħ hs;clear h hs;show Calls prog 17 #[.agg (cW D P)] w _;go_enter func17,ntmps17
 go_wp2_with fail
 refine (fY P.op.A P.op.n P.op.c D.op _ (HO.out.up (aI)) hon).mono ?_;rintro e w1 ⟨v1,rfl,ho1,hb1⟩;obtain ⟨A1,c1,rfl,_⟩:=ho1.txs y91;rw [HO.out.1] at ho1 ⊢;have HLT:Hid (∀q,(Value.slice A1 P.op.n c1).ownBlock=some q→q<w1.heap.size):=ħ (fun q hq=>(bV ho1 q hq).2);have HO1:=ħ (ho1.mono (B':=w.heap.size+3) y17);obtain ⟨hz_w1,hc0_w1,hc1_w1,hc2_w1,hf0_w1,hf1_w1,hf2_w1⟩:=af3 hb1 (w.heap.size+3) w.heap.size (w.heap.size+1) (w.heap.size+2);clear ho1;go_wp2_with fail
 refine (fM P.wa.A P.wa.n P.wa.c D.wa _ (HT.out.up (aI)) HS.out.wa).mono ?_;rintro e w2 ⟨v2,rfl,ho2,hb2⟩;obtain ⟨A2,c2,rfl,_⟩:=ho2.waits HS.out.wa;rw [HT.out.1] at ho2 ⊢;have HO2:=ħ (ho2.mono (B':=w.heap.size+3) y13);obtain ⟨hz_w2,hc0_w2,hc1_w2,hc2_w2,hf0_w2,hf1_w2,hf2_w2⟩:=af3 hb2 (w.heap.size+3) w.heap.size (w.heap.size+1) (w.heap.size+2);clear ho2;go_wp2_with fail
 refine (iX P.he.A P.he.n P.he.c D.he _ (HE.out.up (aI)) HS.out.he).mono ?_;rintro e w3 ⟨v3,rfl,ho3,hb3⟩;obtain ⟨A3,c3,rfl,_⟩:=ho3.helds HS.out.he;rw [HE.out.1] at ho3 ⊢;have HH3:Hid (∃B2,w1.heap.size≤B2∧bL w3 B2 (.slice A3 P.he.n c3) D.he):=ħ ⟨_,by (have:=hb2.size;simp at this ⊢;omega),ho3⟩;have HO3:=ħ (ho3.mono (B':=w.heap.size+3) y13);obtain ⟨hz_w3,hc0_w3,hc1_w3,hc2_w3,hf0_w3,hf1_w3,hf2_w3⟩:=af3 hb3 (w.heap.size+3) w.heap.size (w.heap.size+1) (w.heap.size+2);clear ho3;go_wp2_with fail
 refine (bN P.re.A P.re.n P.re.c D.re _ (HR.out.up (aI)) y2).mono ?_;rintro e w4 ⟨v4,rfl,ho4,hb4⟩;obtain ⟨A4,c4,rfl,_⟩:=ho4.ints y90;rw [HR.out.1] at ho4 ⊢;have HO4:=ħ (ho4.mono (B':=w.heap.size+3) y13);obtain ⟨hz_w4,hc0_w4,hc1_w4,hc2_w4,hf0_w4,hf1_w4,hf2_w4⟩:=af3 hb4 (w.heap.size+3) w.heap.size (w.heap.size+1) (w.heap.size+2);clear ho4;have k4:aX w4 (w.heap.size+3) ⟨⟨A1,P.op.n,c1⟩,⟨A2,P.wa.n,c2⟩,⟨A3,P.he.n,c3⟩,⟨A4,P.re.n,c4⟩⟩ D:=⟨(((((HO1.out.set3 (b:=w.heap.size+2) (o:=3) y2 (.slice A1 P.op.n c1)).up hb2).set3 (b:=w.heap.size+2) (o:=6) y2 (.slice A2 P.wa.n c2)).up hb3).set3 (b:=w.heap.size+2) (o:=7) y2 (.slice A3 P.he.n c3)).up hb4,(((HO2.out.low (b:=w.heap.size+2) (o:=6) (u:=.slice A2 P.wa.n c2) y2).up hb3).low (b:=w.heap.size+2) (o:=7) (u:=.slice A3 P.he.n c3) y2).up hb4,(HO3.out.low (b:=w.heap.size+2) (o:=7) (u:=.slice A3 P.he.n c3) y2).up hb4,HO4.out⟩;have K4:=ħ k4;obtain ⟨B2,hB2,hh2⟩:=HH3.out;have hB3:w.heap.size+3≤B2:=by have:=hb1.size;simp at this;omega
 have HH4:=ħ ((hh2.low (b:=w.heap.size+2) (o:=7) (u:=.slice A3 P.he.n c3) y2).up hb4);clear hh2;clear k4;go_wp2_with fail
 exact bodyPost_ret (v:=.agg #[D.id,D.nodes,D.next,.slice A1 P.op.n c1,D.age,D.clock,.slice A2 P.wa.n c2,.slice A3 P.he.n c3,.slice A4 P.re.n c4]) (by simp [results,results17,go_sem, *]) rfl ⟨⟨⟨A1,P.op.n,c1⟩,⟨A2,P.wa.n,c2⟩,⟨A3,P.he.n,c3⟩,⟨A4,P.re.n,c4⟩⟩,rfl,y49,⟨B2,by omega,fun q hq=>Nat.lt_of_lt_of_le (HLT.out q hq) hB2,by (show bL _ B2 (.slice A3 P.he.n c3) D.he);(repeat (first|(with_reducible exact HH4.out)|((with_reducible refine bL.low ?_ ?_;rotate_left;(omega)))))⟩,aI⟩
def cH:aD:=⟨0,0,0,[],0,0,[],[],[]⟩
theorem lY (w:World):bG w jG cH:=
 ⟨⟨rfl,by simp [eN,cH,jG],by show 0≤_;omega,fun h=>absurd h y60⟩,⟨rfl,by show 0≤_;omega,fun h=>absurd h y60⟩,⟨rfl,by show 0≤_;omega,fun h=>absurd h y60⟩,⟨rfl,by show 0≤_;omega,fun h=>absurd h y60⟩,Nat.le_refl _,by show 0≤_;omega,Nat.le_refl _⟩
theorem jS (w:World) (B:Nat):aX w B jG cH:=⟨bD.nil _ _,cR.nil _ _,bL.nil _ _,aE.nil _ _⟩
theorem gC:dY cH:=⟨by decide,⟨by decide,fun x h=>by simp [cH] at h⟩,⟨by decide,fun x h=>by simp [cH] at h⟩,by decide⟩
theorem cI {T:TypeId} {a b c:World} (h:aC T a b) (k:Below a.heap.size b c):aC T a c:=fun q cur t ht hq=>(k.block q (Array.getElem?_eq_some_iff.1 hq).1).trans (h q cur t ht hq)
theorem cG (w:World):Calls prog 53 #[n0] w fun e w'=>e=.returned (.tuple #[])∧Below w w w':=by
 go_enter func53,ntmps53
 go_wp2_with fail
 go_loop [2] (fun i=>i=.int .i64 0) (fun _=>0)
 case atStart=>rfl
 case round=>
  obtain rfl:=hrel;go_wp2_with (at_builtin;refine tT rfl (.tmp 38) (.tmp 40) rfl rfl w.heap.size _ [] [] rfl (aP.nil _ _) w.heap.size ⟨0,0,0,0,⟨0,0,[]⟩,⟨0,0,[],[]⟩,⟨⟨0,0,[],[]⟩,0,[]⟩,[]⟩ ⟨⟨none,0,0⟩,⟨⟨none,0,0⟩,⟨none,0,0⟩⟩,⟨⟨⟨none,0,0⟩,⟨none,0,0⟩⟩,⟨none,0,0⟩⟩,⟨none,0,0⟩⟩ rfl (bX.new w (dB ⟨⟨none,0,0⟩,⟨⟨none,0,0⟩,⟨none,0,0⟩⟩,⟨⟨⟨none,0,0⟩,⟨none,0,0⟩⟩,⟨none,0,0⟩⟩,⟨none,0,0⟩⟩ ⟨0,0,0,0,⟨0,0,[]⟩,⟨0,0,[],[]⟩,⟨⟨0,0,[],[]⟩,0,[]⟩,[]⟩) 49) ⟨bD.nil _ _,aE.nil _ _,aE.nil _ _,aE.nil _ _,aE.nil _ _,aE.nil _ _,aE.nil _ _⟩ y17 (fE (Nat.le_refl _)) ?_;intro v1 w1 hown1 hg1 hbel1)
  go_end0
  exact ⟨rfl,Below.trans ((Below.refl _ _).alloc (Nat.le_refl _) _) hbel1⟩
theorem bL.tkR {w w':World} {B:Nat} {v:Value} {l:List bI} (h:bL w B v l) (hk:aC 70 w w'):bL w' B v l:=by
 obtain ⟨ps,h1,h2,h3⟩:=h;exact ⟨ps,aR h1 hk y5,h2,fun j hj=>aR (h3 j hj) hk y5⟩
theorem cR.tkR {w w':World} {B:Nat} {v:Value} {l:List aV} (h:cR w B v l) (hk:aC 70 w w'):cR w' B v l:=by
 obtain ⟨ps,h1,h2,h3⟩:=h;exact ⟨ps,aR h1 hk y5,h2,fun j hj=>aR (h3 j hj) hk y5⟩
theorem aX.tkR {w w':World} {B:Nat} {P:aF} {D:aD} (h:aX w B P D) (hk:aC 70 w w'):aX w' B P D:=⟨aR h.op hk y5,h.wa.tkR hk,h.he.tkR hk,aR h.re hk y5⟩
theorem pW {w w':World} {B g k n:Nat} {t t':TypeId} {v:Value} {cs xs:List Value} (h:Blk w g t cs) (hv:w.ownsRow B t' k v n xs) (hne:t≠t') (hg:w.grownBy w' v.ownBlock):Blk w' g t cs:=h.of_heap (hg.block g h.lt (fun e=>by
 obtain ⟨_,c2,e2⟩:=gX hv g e.symm;have hb':w.heap[g]? =some (.cells cs.toArray t (0,0)):=h;rw [hb'] at e2;injection e2 with e2;injection e2 with _ e3 _;exact hne e3))
theorem But.blk {B g k:Nat} {w w':World} {t:TypeId} {cs:List Value} (h:But B g w w') (hb:Blk w k t cs) (hk:k<B) (hne:k≠g):Blk w' k t cs:=hb.of_heap (h.block k hk hne)
theorem zP.keep {S:TypeId→Prop} {w w':World} {B:Nat} {s:SlP} (h:zP w B s) (hk:aS S w w') (hS:¬S 49):zP w' B s:=by
 rcases h with h|⟨g,cur,e,hb,hg,h1,h2,h3,h4⟩
 · exact .inl h
 · obtain ⟨c',k1,k2,k3⟩:=hk g cur _ hg;exact .inr ⟨g,c',e,hb,k1,h1,h2,by omega,fun j hj=>(h4 j hj).keep hk hg hS⟩
theorem AI {id d:Int} {b:bY} {nt:List Int} (hb:b.tx.length≤1000000):∀k,∀x∈dF id d b nt k,iA x
 | 0,x,h=>by simp [dF] at h
 | k+1,x,h=>by
  unfold dF at h;rw [List.mem_append] at h;rcases h with h|h
  · exact AI hb k x h
  · split at h
    · simp at h;subst h;exact ⟨hb,by simp [uI],by simp [uI],by simp [uI],by simp [uI],by simp [uI],by simp [uI]⟩
    · cases h
theorem wH (D:aD) (hs:∀x∈D.he,x.b.tx.length≤1000000):∀k,∀x∈dD D k,iA x∧EK x
 | 0,x,h=>by simp [dD] at h
 | k+1,x,h=>by
  unfold dD at h;rw [List.mem_append] at h;rcases h with h|h
  · exact wH D hs k x h
  · split at h
    · rename_i hy;have hb:=hs _ (cB (oB rfl hy).1);exact ⟨AI hb _ x h,AH (Nat.le_trans hb y5) _ x h⟩
    · cases h
theorem Fo (D:aD) (hs:∀x∈D.he,x.b.tx.length≤1000000) (x:aY) (h:x∈gN D):iA x:=by
 unfold gN at h;split at h
 · exact (wH D hs _ x h).1
 · cases h
theorem B8 (D:aD) (hn:D.nodes≤16):(gN D).length≤D.wa.length*16:=by
 unfold gN;split
 · exact wG D _ hn
 · simp
theorem Er (D:aD) (hs:∀x∈D.he,x.b.tx.length≤1000000) (hw:D.wa.length≤1000000) (hn:D.nodes≤16):CL (gN D):=
 ⟨by have:=B8 D hn;omega,fun x h=>by
  unfold gN at h;split at h
  · exact (wH D hs _ x h).2
  · cases h⟩
theorem F4 {G:aD→Prop} (P:aF) (D:aD) (MP:bQ) (SP:SlP) (a:kF) (w:World) (h:bG w P D) (hs:dY D) (hdo:wiI a.doo 11=8) (hn:D.wa.length≤50000)
 (hsm:D.op.length≤1000000∧D.wa.length≤1000000∧D.he.length≤1000000∧D.re.length≤1000000∧(∀x∈D.wa,x.ak.length≤1000000)∧(∀x∈D.he,x.b.tx.length≤1000000)) (hG0:G D) (hG1:G (aG D)) :
 Calls prog 21 #[P.val D,J26 MP SP a] w (iP w P D G):=by
 have H:=ħ h;have HS:=ħ hs;have HDO:=ħ hdo;have HN:=ħ hn;have HSM:=ħ hsm;have HMH:Hid ((∀x∈D.he,x.b.tx.length≤1000000)∧∀x∈D.he,x.b.tx.length≤1000000):=ħ ⟨hsm.2.2.2.2.2,hsm.2.2.2.2.2⟩;clear h hs hdo hn hsm;show Calls prog 21 #[.agg (cW D P),.agg (cJ a MP SP)] w _;go_enter func21,ntmps21
 refine mn (dZ D) fun z hz=>?_;have HZ:=ħ hz;clear hz;go_wp2_with fail
 have hX1:Blk (((w.alloc (.cells (cW D P) 27)).alloc (.cells (cJ a MP SP) 51)).alloc (.cells cZ 27)) w.heap.size 27 (cW D P):=(Blk.new w 27 (cW D P)).up (aJ)
 have hX2:Blk (((w.alloc (.cells (cW D P) 27)).alloc (.cells (cJ a MP SP) 51)).alloc (.cells cZ 27)) (w.heap.size+1) 51 (cJ a MP SP):=by
  have:=(Blk.new (w.alloc (.cells (cW D P) 27)) 51 (cJ a MP SP)).up (w':=(((w.alloc (.cells (cW D P) 27)).alloc (.cells (cJ a MP SP) 51)).alloc (.cells cZ 27))) (aJ);simpa using this
 have hX3:Blk (((w.alloc (.cells (cW D P) 27)).alloc (.cells (cJ a MP SP) 51)).alloc (.cells cZ 27)) (w.heap.size+2) 27 cZ:=by
  have:=Blk.new ((w.alloc (.cells (cW D P) 27)).alloc (.cells (cJ a MP SP) 51)) 27 cZ;simpa using this
 have hbX:Below w w (((w.alloc (.cells (cW D P) 27)).alloc (.cells (cJ a MP SP) 51)).alloc (.cells cZ 27)):=aJ;generalize (((w.alloc (.cells (cW D P) 27)).alloc (.cells (cJ a MP SP) 51)).alloc (.cells cZ 27))=X at *;have HX1:=ħ hX1;have HX2:=ħ hX2;have HX3:=ħ hX3;have HBX:=ħ hbX;clear hX1 hX2 hX3;refine (bK P D _ (H.out.up hbX) HS.out).mono ?_;rintro e w1 ⟨Pi,he1,hOi,hb1⟩;simp only [aF.val] at he1;subst he1;have hbI:Below w1 w1 (w1.alloc (.cells (cW D Pi) 27)):=aJ;have hY1:=(HX1.out.up hb1);have HOi:=ħ (hOi.up hbI);have HI:=ħ (Blk.new w1 27 (cW D Pi));have HY2:=ħ ((HX2.out.up hb1).up hbI);have HY3:=ħ ((HX3.out.up hb1).up hbI);have HY1:=ħ (hY1.up hbI);have hbY:=aA (aA hbX hb1) hbI;have ly1:=hY1.lt;obtain ⟨a_0,a_1,a_2,a_3,a_4,a_5,a_6,a_7,a_8⟩:=bx9 hY1.box;have hzX:w.heap.size+3≤w1.heap.size:=by have:=(HX3.out.up hb1).lt;omega
 clear hY1 HX1 HX2 HX3 hOi hb1 hbI hbX HBX;go_wp2_with fail
 clear a_0 a_1 a_2 a_3 a_4 a_5 a_6 a_7 a_8 ly1;have hgiE:w1.heap.size<(w1.alloc (.cells (cW D Pi) 27)).heap.size:=HI.out.lt;refine nm w1.heap.size fun gi hgi=>?_;refine nm ((w1.alloc (.cells (cW D Pi) 27))) fun X1 hX1=>?_;rw [←hX1,← hgi] at HI;rw [←hX1] at HOi HY1 HY2 HY3 hbY;rw [←hX1,← hgi];rw [←hX1,← hgi] at hgiE;rw [←hgi] at hzX;clear hX1 hgi;refine (eZ P D z _ (H.out.up hbY) HZ.out).mono ?_;rintro e w2 ⟨rfl,hb2⟩;have hA2:=HY2.out.up hb2;have b_0:=hA2.box.2 0 _ rfl;have lA2:=hA2.lt;have lA1:w.heap.size<w2.heap.size:=by omega
 clear hA2;go_upto_region 40 with (go_at_call 40;refine (fQ a.doo 11 8 _ y5 y5 HDO.out).mono ?_;rintro e w' ⟨rfl,rfl⟩)
 clear b_0 lA2 lA1;have hbz:Below w2 w2 ((w2.alloc (.cells cY 70)).alloc (.cells cZ 27)):=aJ;have hs0:Blk ((w2.alloc (.cells cY 70)).alloc (.cells cZ 27)) w2.heap.size 70 cY:=(Blk.new w2 70 cY).up (aJ)
 have hx0:Blk ((w2.alloc (.cells cY 70)).alloc (.cells cZ 27)) (w2.heap.size+1) 27 cZ:=by
  have:=Blk.new (w2.alloc (.cells cY 70)) 27 cZ;simpa using this
 refine nm (w2.heap.size+1) fun gx hgx=>?_;rw [←hgx] at hx0 ⊢;refine nm w2.heap.size fun gs hgs=>?_;rw [←hgs] at hs0 ⊢;refine nm (((w2.alloc (.cells cY 70)).alloc (.cells cZ 27))) fun Y hY=>?_;rw [←hY] at hbz hs0 hx0 ⊢;have hgisz:=(HI.out.up hb2).lt;have hgis:gi<gs:=by omega
 have hgsx:gs<gx:=by omega
 have hgw:w.heap.size+2<gi:=by omega
 have HU1:=ħ ((HY1.out.up hb2).up hbz);have HU2:=ħ ((HY2.out.up hb2).up hbz);have HU3:=ħ ((HY3.out.up hb2).up hbz);have HUi:=ħ ((HI.out.up hb2).up hbz);have HUs:=ħ hs0;have HUx:=ħ hx0;have HOI:=ħ ((HOi.out.up hb2).up hbz);have hbU:=aA (aA hbY hb2) hbz;clear hY hgx hgs hs0 hx0 hbz hgisz hgiE hzX HY1 HY2 HY3 HI HOi hbY hb2;cases z
 · skip
   go_upto_region 42 with fail
   have hvi:=HUi.out;have li:=hvi.lt;obtain ⟨i_0,i_1,i_2,i_3,i_4,i_5,i_6,i_7,i_8⟩:=bx9 hvi.box;have hux:=HUx.out;go_upto_region 53 with (go_at_call 55;refine (Bx Pi D _ (HOI.out.work HS.out) HZ.out).mono ?_;rintro e wa ⟨he,hba⟩;simp only [jF] at he;subst he;have hXa:=HUx.out.up hba;have fXa:=hXa.frozen;have lXa:=hXa.lt;obtain ⟨x_0,x_1,x_2,x_3,x_4,x_5,x_6,x_7,x_8⟩:=bx9 hXa.box;have HXa:=ħ hXa;clear hXa)
   have hli:=HUi.out.lt;rename_i K9 hK9;refine nm wa.heap.size fun gq hgq=>?_;refine nm (((kZ wa gx:World).alloc (.cells cY 70))) fun W hW=>?_;have hal:Below (kZ wa gx:World).heap.size (kZ wa gx) W:=by rw [hW];exact aB (Below.refl _ _)
   have hqB:Blk W gq 70 cY:=by
    rw [hW,hgq];have:=Blk.new (kZ wa gx) 70 cY;simpa [World.setCell] using this
   rw [←hW,← hgq];clear hW hgq;have hsx:=nZ (gF HXa.out rfl);have htk:aC 27 Y W:=(aC.of_below hba).trans ((nZ (aC.sets9 HXa.out)).trans (aC.of_below hal));have hblk:∀g t cs,Blk Y g t cs→g≠gx→Blk W g t cs:=fun g t cs h hne=>(nZ ((h.up hba).sets9 hne)).up hal;have hbWw:Below w w W:=(nZ (bU (aA hbU hba) y2)).trans (hal.mono y40);have hBW:Y.heap.size≤W.heap.size:=by have h2:=hba.size;have h3:=hal.size;simp [World.setCell] at h3;omega
   have l1:=HU1.out.lt;have l3:=HU3.out.lt;have hwB:=hbU.size
   exact dX w W Y.heap.size w.heap.size (w.heap.size+1+1) gi gq gx P Pi jG jG D cH 1 y47 none none 0 0 0 0 hK9 hbWw hwB hBW y2 l3 y2 y2 (by intro e;rw [e] at hqB;have h9:=hblk _ _ _ HU3.out y2;have h8:W.heap[w.heap.size+1+1]? =some (.cells cY 70 (0,0)):=hqB;have h7:W.heap[w.heap.size+1+1]? =some (.cells cZ 27 (0,0)):=h9;rw [h8] at h7;simp at h7)
    (fun Y' hY'=>⟨H.out.up (hbWw.trans (hY'.mono hwB)),(HOI.out.tk (cI htk hY') aU).work HS.out,(hblk _ _ _ HU1.out y2).below hY' l1,(hblk _ _ _ HUi.out y2).below hY' hli,(hblk _ _ _ HU3.out y2).below hY' l3⟩)
    (fun Y' hY'=>⟨lY _,hqB.up hY'⟩) (fun h=>absurd h y5)
    (fun h=>absurd h y5)
    (hsx.up hal) (jS _ _) gC y5 y5 y5 y5 (fun x hx=>by simp [cH] at hx) (fun x hx=>by simp [cH] at hx)
    (fun Y' hY'=>bO none 0 0 none 0 0 [] Y' (eJ.nil _) (eJ.nil _)) (fun Y' hY' hk=>(cG Y').mono fun e w' h=>⟨h.1,h.2.mono (Nat.le_trans hBW hY'.size)⟩)
 · have hn16:D.nodes≤16:=(gR (cX.1 HZ.out).1).2;go_upto_region 41 with fail
   have lx1:=HU1.out.lt;obtain ⟨a_0,a_1,a_2,a_3,a_4,a_5,a_6,a_7,a_8⟩:=bx9 HU1.out.box;go_upto_region 42 with (go_at_call 54;refine (Ej P D _ (H.out.up hbU) HZ.out HS.out (Nat.le_trans HN.out y5)).mono ?_;rintro e w6 ⟨gq,P5,uA,un,uc,us,rfl,hQ6,hO6,hM6,hgq0,hb6⟩;have HQ6:=ħ hQ6;have HO5:=ħ hO6;have HM5:=ħ hM6;clear hQ6 hO6 hM6)
   clear a_0 a_1 a_2 a_3 a_4 a_5 a_6 a_7 a_8 lx1;have HG1:=ħ (HU1.out.up hb6);have HG3:=ħ (HU3.out.up hb6);have HGi:=ħ (HUi.out.up hb6);have HGx:=ħ (HUx.out.up hb6);have HGO:=ħ (HOI.out.up hb6);have hgxY:=HUx.out.lt;have hg3Y:=HU3.out.lt;have hsz6:=hb6.size;have hbB:=aA hbU hb6;have hvi:=HGi.out;have li:=hvi.lt;obtain ⟨i_0,i_1,i_2,i_3,i_4,i_5,i_6,i_7,i_8⟩:=bx9 hvi.box;clear HU1 HU2 HU3 HUi HUs HUx HOI hbU hvi;go_upto_region 53 with (go_at_call 55;refine (DL Pi D _ (HGO.out.work HS.out) HS.out HZ.out (Nat.le_trans HN.out y5)).mono ?_;rintro e wa ⟨P8,lA,ln,lc,ls,he,hO8,hM8,hba⟩;simp only [aF.val] at he;subst he;have hXa:=HGx.out.up hba;have fXa:=hXa.frozen;have lXa:=hXa.lt;obtain ⟨x_0,x_1,x_2,x_3,x_4,x_5,x_6,x_7,x_8⟩:=bx9 hXa.box;have HXa:=ħ hXa;have HO8:=ħ hO8;have HM8:=ħ hM8;clear hXa hO8 hM8)
   rename_i K9 hK9;clear li i_0 i_1 i_2 i_3 i_4 i_5 i_6 i_7 i_8 x_0 x_1 x_2 x_3 x_4 x_5 x_6 x_7 x_8 fXa lXa;have hsx:=nW (aG D) P8 (gF HXa.out rfl);have hO8w:=HO8.out.tk (nW (aG D) P8 (aC.sets9 HXa.out)) aU;have hM8w:aP cT (kW wa gx (aG D) P8) w6.heap.size (.slice lA ln lc) ls (gN D):=nW (aG D) P8 (HM8.out.lows y2);have hM5w:aP cT (kW wa gx (aG D) P8) Y.heap.size (.slice uA un uc) us (gN D):=nW (aG D) P8 ((HM5.out.up hba).lows y2);have htk:aC 27 w6 (kW wa gx (aG D) P8):=(aC.of_below hba).trans (nW (aG D) P8 (aC.sets9 HXa.out));have hblk:∀g t cs,Blk w6 g t cs→g≠gx→Blk (kW wa gx (aG D) P8) g t cs:=fun g t cs h hne=>nW (aG D) P8 ((h.up hba).sets9 hne);have hbWw:=nW (aG D) P8 (bU (g:=gx) (aA hbB hba) y2);have hBW:w6.heap.size≤(kW wa gx (aG D) P8:World).heap.size:=by have h2:=hba.size;simp [World.setCell];exact h2
   refine nm (kW wa gx (aG D) P8:World) fun W hW=>?_;rw [←hW] at hsx hO8w hM8w hM5w htk hblk hbWw hBW ⊢;clear hW;have l1:=HG1.out.lt;have l3:=HG3.out.lt;have lq:=HQ6.out.lt;have hli:=HGi.out.lt;have hwB:=hbB.size;have hbg:dY (aG D):=⟨HS.out.op,HS.out.wa,HS.out.he,HS.out.re⟩;have hR8:=hO8w.work hbg;have hmsL:=Er D HMH.out.2 (Nat.le_trans HN.out y5) hn16;obtain ⟨A1,c1,e1,hr1,_⟩:=dH.msgs ⟨ls,hM8w⟩ hmsL;obtain ⟨A2,c2,e2,hr2,_⟩:=dH.msgs ⟨us,hM5w⟩ hmsL;injection e1 with ea1 eb1 ec1;injection e2 with ea2 eb2 ec2;rw [←ea1,← eb1] at hr1;rw [←ea2,← eb2] at hr2;have hrm:zP W w6.heap.size ⟨lA,ln,lc⟩:=uB (s:=⟨lA,ln,lc⟩) hM8w (fun x hx=>Fo D HMH.out.1 x hx);have hln:ln≤1000000:=by rw [eb1];have:=B8 D hn16;have:=HN.out;omega
   have HR1:=ħ hr1;have HR2:=ħ hr2;have HRM:=ħ hrm;clear ea1 eb1 ec1 ea2 eb2 ec2 hr1 hr2 hrm
   exact dX w W w6.heap.size w.heap.size (w.heap.size+1+1) gi gq gx P Pi P5 P8 D (aG D) 0 y56 uA lA un uc ln lc hK9 hbWw hwB hBW y2 l3 y2 y2 y2
    (fun Y' hY'=>⟨H.out.up (hbWw.trans (hY'.mono hwB)),(HGO.out.tk (cI htk hY') aU).work HS.out,(hblk _ _ _ HG1.out y2).below hY' l1,(hblk _ _ _ HGi.out y2).below hY' hli,(hblk _ _ _ HG3.out y2).below hY' l3⟩)
    (fun Y' hY'=>⟨(HO5.out.tk (cI htk (hY'.mono hBW)) aU).work hbg,(hblk _ _ _ HQ6.out y2).up hY'⟩) (fun _ Y' hY'=>(hblk _ _ _ HQ6.out y2).below hY' lq)
    (fun _ Y' hY' Z hZ hz=>((HO5.out.tk (cI htk hY') aU).tk hZ aU).work hbg)
    hsx hO8w hbg y54 y43 y42 y66 HSM.out.2.2.2.2.1 HSM.out.2.2.2.2.2
    (fun Y' hY'=>bO lA ln lc uA un uc (gN D) Y' (HR1.out.up hY') (by (have e3:=HR1.out.1;have e4:=HR2.out.1);exact HR2.out.up hY'))
    (fun Y' hY' hk=>(iU ⟨lA,ln,lc⟩ w6.heap.size Y' (HRM.out.keep hk (by unfold wO;decide)) hln (Nat.le_trans hBW hY'.size)).mono fun e w' h=>⟨h.1,h.2.1⟩)
theorem CB {G:aD→Prop} (P:aF) (D:aD) (MP:bQ) (SP:SlP) (a:kF) (k:Int) (w:World) (h:bG w P D) (hs:dY D) (hk:k=0∨k=1) (hdo:wiI a.doo 11=k) (hbad:xZ D a.t≠0) (hG0:G D) :
 Calls prog 21 #[P.val D,J26 MP SP a] w (iP w P D G):=by
 have H:=ħ h;have HS:=ħ hs;have HDO:=ħ hdo;clear h hs hdo;show Calls prog 21 #[.agg (cW D P),.agg (cJ a MP SP)] w _;go_enter func21,ntmps21
 refine mn (dZ D) fun z hz=>?_;have HZ:=ħ hz;go_wp2_with fail
 have hX1:Blk (((w.alloc (.cells (cW D P) 27)).alloc (.cells (cJ a MP SP) 51)).alloc (.cells cZ 27)) w.heap.size 27 (cW D P):=(Blk.new w 27 (cW D P)).up (aJ)
 have hX2:Blk (((w.alloc (.cells (cW D P) 27)).alloc (.cells (cJ a MP SP) 51)).alloc (.cells cZ 27)) (w.heap.size+1) 51 (cJ a MP SP):=by
  have:=(Blk.new (w.alloc (.cells (cW D P) 27)) 51 (cJ a MP SP)).up (w':=(((w.alloc (.cells (cW D P) 27)).alloc (.cells (cJ a MP SP) 51)).alloc (.cells cZ 27))) (aJ);simpa using this
 have hX3:Blk (((w.alloc (.cells (cW D P) 27)).alloc (.cells (cJ a MP SP) 51)).alloc (.cells cZ 27)) (w.heap.size+2) 27 cZ:=by
  have:=Blk.new ((w.alloc (.cells (cW D P) 27)).alloc (.cells (cJ a MP SP) 51)) 27 cZ;simpa using this
 have hbX:Below w w (((w.alloc (.cells (cW D P) 27)).alloc (.cells (cJ a MP SP) 51)).alloc (.cells cZ 27)):=aJ;generalize (((w.alloc (.cells (cW D P) 27)).alloc (.cells (cJ a MP SP) 51)).alloc (.cells cZ 27))=X at *;have HX1:=ħ hX1;have HX2:=ħ hX2;have HX3:=ħ hX3;have HBX:=ħ hbX;clear hX1 hX2 hX3;refine (bK P D _ (H.out.up hbX) HS.out).mono ?_;rintro e w1 ⟨Pi,he1,hOi,hb1⟩;simp only [aF.val] at he1;subst he1;have hbI:Below w1 w1 (w1.alloc (.cells (cW D Pi) 27)):=aJ;have hY1:=(HX1.out.up hb1);have HOi:=ħ (hOi.up hbI);have HI:=ħ (Blk.new w1 27 (cW D Pi));have HY2:=ħ ((HX2.out.up hb1).up hbI);have HY3:=ħ ((HX3.out.up hb1).up hbI);have HY1:=ħ (hY1.up hbI);have hbY:=aA (aA hbX hb1) hbI;have ly1:=hY1.lt;obtain ⟨a_0,a_1,a_2,a_3,a_4,a_5,a_6,a_7,a_8⟩:=bx9 hY1.box;have hzX:w.heap.size+3≤w1.heap.size:=by have:=(HX3.out.up hb1).lt;omega
 clear hY1 HX1 HX2 HX3 hOi hb1 hbI hbX HBX;go_wp2_with fail
 clear a_0 a_1 a_2 a_3 a_4 a_5 a_6 a_7 a_8 ly1;have hgiE:w1.heap.size<(w1.alloc (.cells (cW D Pi) 27)).heap.size:=HI.out.lt;refine nm w1.heap.size fun gi hgi=>?_;refine nm ((w1.alloc (.cells (cW D Pi) 27))) fun X1 hX1=>?_;rw [←hX1,← hgi] at HI;rw [←hX1] at HOi HY1 HY2 HY3 hbY;rw [←hX1,← hgi];rw [←hX1,← hgi] at hgiE;rw [←hgi] at hzX;clear hX1 hgi;refine (eZ P D z _ (H.out.up hbY) HZ.out).mono ?_;rintro e w2 ⟨rfl,hb2⟩;have hA2:=HY2.out.up hb2;have b_0:=hA2.box.2 0 _ rfl;have lA2:=hA2.lt;have lA1:w.heap.size<w2.heap.size:=by omega
 clear hA2;have k2:(k == 2)=false:=by simp;omega
 have k3:(k == 3)=false:=by simp;omega
 have k4:(k == 4)=false:=by simp;omega
 have k5:(k == 5)=false:=by simp;omega
 have k6:(k == 6)=false:=by simp;omega
 have k7:(k == 7)=false:=by simp;omega
 have k8:(k == 8)=false:=by simp;omega
 have k9:(k == 9)=false:=by simp;omega
 have k10:(k == 10)=false:=by simp;omega
 clear hk;go_upto_region 8 with (go_at_call 40;refine (fQ a.doo 11 k _ y5 y5 HDO.out).mono ?_;rintro e w' ⟨rfl,rfl⟩)
 clear b_0 lA2 lA1;have hbz:Below w2 w2 ((w2.alloc (.cells cY 70)).alloc (.cells cZ 27)):=aJ;have hs0:Blk ((w2.alloc (.cells cY 70)).alloc (.cells cZ 27)) w2.heap.size 70 cY:=(Blk.new w2 70 cY).up (aJ)
 have hx0:Blk ((w2.alloc (.cells cY 70)).alloc (.cells cZ 27)) (w2.heap.size+1) 27 cZ:=by
  have:=Blk.new (w2.alloc (.cells cY 70)) 27 cZ;simpa using this
 refine nm (w2.heap.size+1) fun gx hgx=>?_;rw [←hgx] at hx0 ⊢;refine nm w2.heap.size fun gs hgs=>?_;rw [←hgs] at hs0 ⊢;refine nm (((w2.alloc (.cells cY 70)).alloc (.cells cZ 27))) fun Y hY=>?_;rw [←hY] at hbz hs0 hx0 ⊢;have hgisz:=(HI.out.up hb2).lt;have hgis:gi<gs:=by omega
 have hgsx:gs<gx:=by omega
 have hgw:w.heap.size+2<gi:=by omega
 have HU1:=ħ ((HY1.out.up hb2).up hbz);have HU2:=ħ ((HY2.out.up hb2).up hbz);have HU3:=ħ ((HY3.out.up hb2).up hbz);have HUi:=ħ ((HI.out.up hb2).up hbz);have HUs:=ħ hs0;have HUx:=ħ hx0;have HOI:=ħ ((HOi.out.up hb2).up hbz);have hbU:=aA (aA hbY hb2) hbz;clear hY hgx hgs hs0 hx0 hbz hgisz hgiE hzX HY1 HY2 HY3 HI HOi hbY hb2;cases z
 · have hE:xZ D a.t=1:=by unfold xZ;rw [if_neg (by rw [hz];simp)]
   have HE:=ħ hE;clear hE hz;have hrf:Below Y Y Y:=Below.refl _ _;have HV1:=ħ (HU1.out.up hrf);have HV2:=ħ (HU2.out.up hrf);have HV3:=ħ (HU3.out.up hrf);have HVi:=ħ (HUi.out.up hrf);have HVs:=ħ (HUs.out.up hrf);have HVx:=ħ (HUx.out.up hrf);have HOV:=ħ (HOI.out.up hrf);have hbV:=aA hbU hrf;have hli:=HVi.out.lt;have hla:=HV2.out.lt;obtain ⟨i_0,i_1,i_2,i_3,i_4,i_5,i_6,i_7,i_8⟩:=bx9 HVi.out.box;have b_2:=HV2.out.box.2 2 _ rfl;have b_3:=HV2.out.box.2 3 _ rfl;have b_4:=HV2.out.box.2 4 _ rfl;have b_5:=HV2.out.box.2 5 _ rfl;go_upto_region 53 with (go_at_call 61;refine (nS Pi D a.t 1 _ (HOV.out.work HS.out) HE.out y5).mono ?_;rintro e wa ⟨he,hba⟩;simp only [jF] at he;subst he;have hXa:=HVx.out.up hba;have fXa:=hXa.frozen;have lXa:=hXa.lt;obtain ⟨x_0,x_1,x_2,x_3,x_4,x_5,x_6,x_7,x_8⟩:=bx9 hXa.box;have HXa:=ħ hXa;clear hXa)
   rename_i K9 hK9;refine nm wa.heap.size fun gq hgq=>?_;refine nm (((kZ wa gx:World).alloc (.cells cY 70))) fun W hW=>?_;have hal:Below (kZ wa gx:World).heap.size (kZ wa gx) W:=by rw [hW];exact aB (Below.refl _ _)
   have hqB:Blk W gq 70 cY:=by
    rw [hW,hgq];have:=Blk.new (kZ wa gx) 70 cY;simpa [World.setCell] using this
   rw [←hW,← hgq];clear hW hgq;have hsx:=nZ (gF HXa.out rfl);have htk:aC 27 Y W:=(aC.of_below hba).trans ((nZ (aC.sets9 HXa.out)).trans (aC.of_below hal));have hblk:∀g t cs,Blk Y g t cs→g≠gx→Blk W g t cs:=fun g t cs h hne=>(nZ ((h.up hba).sets9 hne)).up hal;have hbWw:Below w w W:=(nZ (bU (aA hbV hba) y2)).trans (hal.mono y88);have hBW:Y.heap.size≤W.heap.size:=by have h2:=hba.size;have h3:=hal.size;simp [World.setCell] at h3;omega
   have l1:=HV1.out.lt;have l3:=HV3.out.lt;have hwB:=hbV.size
   exact dX w W Y.heap.size w.heap.size (w.heap.size+1+1) gi gq gx P Pi jG jG D cH 1 y47 none none 0 0 0 0 hK9 hbWw hwB hBW y2 l3 y2 y2 (by intro e;rw [e] at hqB;have h9:=hblk _ _ _ HV3.out y2;have h8:W.heap[w.heap.size+1+1]? =some (.cells cY 70 (0,0)):=hqB;have h7:W.heap[w.heap.size+1+1]? =some (.cells cZ 27 (0,0)):=h9;rw [h8] at h7;simp at h7)
    (fun Y' hY'=>⟨H.out.up (hbWw.trans (hY'.mono hwB)),(HOV.out.tk (cI htk hY') aU).work HS.out,(hblk _ _ _ HV1.out y2).below hY' l1,(hblk _ _ _ HVi.out y2).below hY' hli,(hblk _ _ _ HV3.out y2).below hY' l3⟩)
    (fun Y' hY'=>⟨lY _,hqB.up hY'⟩) (fun h=>absurd h y5)
    (fun h=>absurd h y5)
    (hsx.up hal) (jS _ _) gC y5 y5 y5 y5 (fun x hx=>by simp [cH] at hx) (fun x hx=>by simp [cH] at hx)
    (fun Y' hY'=>bO none 0 0 none 0 0 [] Y' (eJ.nil _) (eJ.nil _)) (fun Y' hY' hk=>(cG Y').mono fun e w' h=>⟨h.1,h.2.mono (Nat.le_trans hBW hY'.size)⟩)
 · obtain ⟨z2,hz2⟩:∃z,txS a.t=z:=⟨_,rfl⟩;have HZ2:=ħ hz2;have hla:=HU2.out.lt;have b_2:=HU2.out.box.2 2 _ rfl;have b_3:=HU2.out.box.2 3 _ rfl;have b_4:=HU2.out.box.2 4 _ rfl;have b_5:=HU2.out.box.2 5 _ rfl;cases z2
   · have hE:xZ D a.t=1:=by unfold xZ;rw [if_neg (by rw [hz2];simp)]
     have HE:=ħ hE;clear hE hz hz2;go_upto_region 14 with (go_at_call 60;refine (xQ a.t false _ HZ2.out).mono ?_;rintro e w5 ⟨rfl,hb5⟩)
     clear hla b_2 b_3 b_4 b_5;have HV1:=ħ (HU1.out.up hb5);have HV2:=ħ (HU2.out.up hb5);have HV3:=ħ (HU3.out.up hb5);have HVi:=ħ (HUi.out.up hb5);have HVs:=ħ (HUs.out.up hb5);have HVx:=ħ (HUx.out.up hb5);have HOV:=ħ (HOI.out.up hb5);have hbV:=aA hbU hb5;have hli:=HVi.out.lt;have hla:=HV2.out.lt;obtain ⟨i_0,i_1,i_2,i_3,i_4,i_5,i_6,i_7,i_8⟩:=bx9 HVi.out.box;have b_2:=HV2.out.box.2 2 _ rfl;have b_3:=HV2.out.box.2 3 _ rfl;have b_4:=HV2.out.box.2 4 _ rfl;have b_5:=HV2.out.box.2 5 _ rfl;go_upto_region 53 with (go_at_call 61;refine (nS Pi D a.t 1 _ (HOV.out.work HS.out) HE.out y5).mono ?_;rintro e wa ⟨he,hba⟩;simp only [jF] at he;subst he;have hXa:=HVx.out.up hba;have fXa:=hXa.frozen;have lXa:=hXa.lt;obtain ⟨x_0,x_1,x_2,x_3,x_4,x_5,x_6,x_7,x_8⟩:=bx9 hXa.box;have HXa:=ħ hXa;clear hXa)
     rename_i K9 hK9;refine nm wa.heap.size fun gq hgq=>?_;refine nm (((kZ wa gx:World).alloc (.cells cY 70))) fun W hW=>?_;have hal:Below (kZ wa gx:World).heap.size (kZ wa gx) W:=by rw [hW];exact aB (Below.refl _ _)
     have hqB:Blk W gq 70 cY:=by
      rw [hW,hgq];have:=Blk.new (kZ wa gx) 70 cY;simpa [World.setCell] using this
     rw [←hW,← hgq];clear hW hgq;have hsx:=nZ (gF HXa.out rfl);have htk:aC 27 w5 W:=(aC.of_below hba).trans ((nZ (aC.sets9 HXa.out)).trans (aC.of_below hal));have hblk:∀g t cs,Blk w5 g t cs→g≠gx→Blk W g t cs:=fun g t cs h hne=>(nZ ((h.up hba).sets9 hne)).up hal;have hbWw:Below w w W:=(nZ (bU (aA hbV hba) y2)).trans (hal.mono y88);have hBW:w5.heap.size≤W.heap.size:=by have h2:=hba.size;have h3:=hal.size;simp [World.setCell] at h3;omega
     have l1:=HV1.out.lt;have l3:=HV3.out.lt;have hwB:=hbV.size
     exact dX w W w5.heap.size w.heap.size (w.heap.size+1+1) gi gq gx P Pi jG jG D cH 1 y47 none none 0 0 0 0 hK9 hbWw hwB hBW y2 l3 y2 y2 (by intro e;rw [e] at hqB;have h9:=hblk _ _ _ HV3.out y2;have h8:W.heap[w.heap.size+1+1]? =some (.cells cY 70 (0,0)):=hqB;have h7:W.heap[w.heap.size+1+1]? =some (.cells cZ 27 (0,0)):=h9;rw [h8] at h7;simp at h7)
      (fun Y' hY'=>⟨H.out.up (hbWw.trans (hY'.mono hwB)),(HOV.out.tk (cI htk hY') aU).work HS.out,(hblk _ _ _ HV1.out y2).below hY' l1,(hblk _ _ _ HVi.out y2).below hY' hli,(hblk _ _ _ HV3.out y2).below hY' l3⟩)
      (fun Y' hY'=>⟨lY _,hqB.up hY'⟩) (fun h=>absurd h y5)
      (fun h=>absurd h y5)
      (hsx.up hal) (jS _ _) gC y5 y5 y5 y5 (fun x hx=>by simp [cH] at hx) (fun x hx=>by simp [cH] at hx)
      (fun Y' hY'=>bO none 0 0 none 0 0 [] Y' (eJ.nil _) (eJ.nil _)) (fun Y' hY' hk=>(cG Y').mono fun e w' h=>⟨h.1,h.2.mono (Nat.le_trans hBW hY'.size)⟩)
   · have hon:D.op.length=P.op.n:=H.out.op.1;have hE2:xZ D a.t=if D.op.length<64 then 0 else 8:=by unfold xZ;rw [if_pos ⟨hz,hz2⟩]
     by_cases hl64:D.op.length<64
     · exact absurd (by rw [hE2,if_pos hl64]) hbad
     · have hE:xZ D a.t=8:=by rw [hE2,if_neg hl64]
       have HE:=ħ hE;have hn64:¬P.op.n<64:=by omega
       have hnd:decide ((P.op.n:Int)<64)=false:=by simp;omega
       clear hE hz hz2 hE2 hon hl64;go_upto_region 10 with (go_at_call 60;refine (xQ a.t true _ HZ2.out).mono ?_;rintro e w5 ⟨rfl,hb5⟩)
       clear hla b_2 b_3 b_4 b_5;have HV1:=ħ (HU1.out.up hb5);have HV2:=ħ (HU2.out.up hb5);have HV3:=ħ (HU3.out.up hb5);have HVi:=ħ (HUi.out.up hb5);have HVs:=ħ (HUs.out.up hb5);have HVx:=ħ (HUx.out.up hb5);have HOV:=ħ (HOI.out.up hb5);have hbV:=aA hbU hb5;have a_3:=HV1.out.box.2 3 _ rfl;have la3:=HV1.out.lt;go_upto_region 14 with fail
       clear a_3 la3;have hli:=HVi.out.lt;have hla:=HV2.out.lt;obtain ⟨i_0,i_1,i_2,i_3,i_4,i_5,i_6,i_7,i_8⟩:=bx9 HVi.out.box;have b_2:=HV2.out.box.2 2 _ rfl;have b_3:=HV2.out.box.2 3 _ rfl;have b_4:=HV2.out.box.2 4 _ rfl;have b_5:=HV2.out.box.2 5 _ rfl;go_upto_region 53 with (go_at_call 61;refine (nS Pi D a.t 8 _ (HOV.out.work HS.out) HE.out y5).mono ?_;rintro e wa ⟨he,hba⟩;simp only [jF] at he;subst he;have hXa:=HVx.out.up hba;have fXa:=hXa.frozen;have lXa:=hXa.lt;obtain ⟨x_0,x_1,x_2,x_3,x_4,x_5,x_6,x_7,x_8⟩:=bx9 hXa.box;have HXa:=ħ hXa;clear hXa)
       rename_i K9 hK9;refine nm wa.heap.size fun gq hgq=>?_;refine nm (((kZ wa gx:World).alloc (.cells cY 70))) fun W hW=>?_;have hal:Below (kZ wa gx:World).heap.size (kZ wa gx) W:=by rw [hW];exact aB (Below.refl _ _)
       have hqB:Blk W gq 70 cY:=by
        rw [hW,hgq];have:=Blk.new (kZ wa gx) 70 cY;simpa [World.setCell] using this
       rw [←hW,← hgq];clear hW hgq;have hsx:=nZ (gF HXa.out rfl);have htk:aC 27 w5 W:=(aC.of_below hba).trans ((nZ (aC.sets9 HXa.out)).trans (aC.of_below hal));have hblk:∀g t cs,Blk w5 g t cs→g≠gx→Blk W g t cs:=fun g t cs h hne=>(nZ ((h.up hba).sets9 hne)).up hal;have hbWw:Below w w W:=(nZ (bU (aA hbV hba) y2)).trans (hal.mono y88);have hBW:w5.heap.size≤W.heap.size:=by have h2:=hba.size;have h3:=hal.size;simp [World.setCell] at h3;omega
       have l1:=HV1.out.lt;have l3:=HV3.out.lt;have hwB:=hbV.size
       exact dX w W w5.heap.size w.heap.size (w.heap.size+1+1) gi gq gx P Pi jG jG D cH 8 y47 none none 0 0 0 0 hK9 hbWw hwB hBW y2 l3 y2 y2 (by intro e;rw [e] at hqB;have h9:=hblk _ _ _ HV3.out y2;have h8:W.heap[w.heap.size+1+1]? =some (.cells cY 70 (0,0)):=hqB;have h7:W.heap[w.heap.size+1+1]? =some (.cells cZ 27 (0,0)):=h9;rw [h8] at h7;simp at h7)
        (fun Y' hY'=>⟨H.out.up (hbWw.trans (hY'.mono hwB)),(HOV.out.tk (cI htk hY') aU).work HS.out,(hblk _ _ _ HV1.out y2).below hY' l1,(hblk _ _ _ HVi.out y2).below hY' hli,(hblk _ _ _ HV3.out y2).below hY' l3⟩)
        (fun Y' hY'=>⟨lY _,hqB.up hY'⟩) (fun h=>absurd h y5)
        (fun h=>absurd h y5)
        (hsx.up hal) (jS _ _) gC y5 y5 y5 y5 (fun x hx=>by simp [cH] at hx) (fun x hx=>by simp [cH] at hx)
        (fun Y' hY'=>bO none 0 0 none 0 0 [] Y' (eJ.nil _) (eJ.nil _)) (fun Y' hY' hk=>(cG Y').mono fun e w' h=>⟨h.1,h.2.mono (Nat.le_trans hBW hY'.size)⟩)
end Go.Proofs.YtgfakefcmbpboaaGreat
