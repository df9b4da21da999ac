/- Part 47 of what WorkerExact leans on. No conditions. -/
import Derived.Test.YtgfakefcmbpboaaGreatV31
import Derived.Test.YtgfakefcmbpboaaGreatV34
import Derived.Test.YtgfakefcmbpboaaGreatV46
namespace Go.Proofs.YtgfakefcmbpboaaGreat
set_option linter.all false
set_option maxRecDepth 100000
set_option maxHeartbeats 64000000
open _root_.Go.Proofs.Tryz Go.RowKit
open Tok
theorem F5 {G:aD→Prop} (P:aF) (D:aD) (MP:bQ) (SP:SlP) (a:kF) (w:World) (h:bG w P D) (hs:dY D) (hdo:wiI a.doo 11=9) (hi:aL w SP.A SP.n a.l) (hn:SP.n≤200000) (hnr:D.re.length≤200000) (hbg:dY (jH D a.l)) (hrl:(jH D a.l).re.length≤1000000)
 (hsm:D.op.length≤1000000∧D.wa.length≤1000000∧D.he.length≤1000000∧(∀x∈D.wa,x.ak.length≤1000000)∧(∀x∈D.he,x.b.tx.length≤1000000)) (hG0:G D) (hG1:G (jH D a.l)) :
 Calls prog 21 #[P.val D,J26 MP SP a] w (iP w P D G):=by
 have H:=ħ h;have HS:=ħ hs;have HDO:=ħ hdo;have HLN:Hid (a.l.length=SP.n):=ħ hi.1;have HSP:=ħ hi;have HN:=ħ hn;have HNR:=ħ hnr;have HBG:=ħ hbg;have HRL:=ħ hrl;have HSM:=ħ hsm;clear h hs hdo hi hn hnr hbg hrl hsm;show Calls prog 21 #[.agg (cW D P),.agg (cJ a MP SP)] w _;go_enter func21,ntmps21
 refine mn (dZ D) fun z hz=>?_;have HZ:=ħ hz;clear hz;go_wp2_with fail
 have hX1:Blk (((w.alloc (.cells (cW D P) 27)).alloc (.cells (cJ a MP SP) 51)).alloc (.cells cZ 27)) w.heap.size 27 (cW D P):=(Blk.new w 27 (cW D P)).up (aJ)
 have hX2:Blk (((w.alloc (.cells (cW D P) 27)).alloc (.cells (cJ a MP SP) 51)).alloc (.cells cZ 27)) (w.heap.size+1) 51 (cJ a MP SP):=by
  have:=(Blk.new (w.alloc (.cells (cW D P) 27)) 51 (cJ a MP SP)).up (w':=(((w.alloc (.cells (cW D P) 27)).alloc (.cells (cJ a MP SP) 51)).alloc (.cells cZ 27))) (aJ);simpa using this
 have hX3:Blk (((w.alloc (.cells (cW D P) 27)).alloc (.cells (cJ a MP SP) 51)).alloc (.cells cZ 27)) (w.heap.size+2) 27 cZ:=by
  have:=Blk.new ((w.alloc (.cells (cW D P) 27)).alloc (.cells (cJ a MP SP) 51)) 27 cZ;simpa using this
 have hbX:Below w w (((w.alloc (.cells (cW D P) 27)).alloc (.cells (cJ a MP SP) 51)).alloc (.cells cZ 27)):=aJ;generalize (((w.alloc (.cells (cW D P) 27)).alloc (.cells (cJ a MP SP) 51)).alloc (.cells cZ 27))=X at *;have HX1:=ħ hX1;have HX2:=ħ hX2;have HX3:=ħ hX3;have HBX:=ħ hbX;clear hX1 hX2 hX3;refine (bK P D _ (H.out.up hbX) HS.out).mono ?_;rintro e w1 ⟨Pi,he1,hOi,hb1⟩;simp only [aF.val] at he1;subst he1;have hbI:Below w1 w1 (w1.alloc (.cells (cW D Pi) 27)):=aJ;have hY1:=(HX1.out.up hb1);have HOi:=ħ (hOi.up hbI);have HI:=ħ (Blk.new w1 27 (cW D Pi));have HY2:=ħ ((HX2.out.up hb1).up hbI);have HY3:=ħ ((HX3.out.up hb1).up hbI);have HY1:=ħ (hY1.up hbI);have hbY:=aA (aA hbX hb1) hbI;have ly1:=hY1.lt;obtain ⟨a_0,a_1,a_2,a_3,a_4,a_5,a_6,a_7,a_8⟩:=bx9 hY1.box;have hzX:w.heap.size+3≤w1.heap.size:=by have:=(HX3.out.up hb1).lt;omega
 clear hY1 HX1 HX2 HX3 hOi hb1 hbI hbX HBX;go_wp2_with fail
 clear a_0 a_1 a_2 a_3 a_4 a_5 a_6 a_7 a_8 ly1;have hgiE:w1.heap.size<(w1.alloc (.cells (cW D Pi) 27)).heap.size:=HI.out.lt;refine nm w1.heap.size fun gi hgi=>?_;refine nm ((w1.alloc (.cells (cW D Pi) 27))) fun X1 hX1=>?_;rw [←hX1,← hgi] at HI;rw [←hX1] at HOi HY1 HY2 HY3 hbY;rw [←hX1,← hgi];rw [←hX1,← hgi] at hgiE;rw [←hgi] at hzX;clear hX1 hgi;refine (eZ P D z _ (H.out.up hbY) HZ.out).mono ?_;rintro e w2 ⟨rfl,hb2⟩;have hA2:=HY2.out.up hb2;have b_0:=hA2.box.2 0 _ rfl;have lA2:=hA2.lt;have lA1:w.heap.size<w2.heap.size:=by omega
 clear hA2;go_upto_region 44 with (go_at_call 40;refine (fQ a.doo 11 9 _ y5 y5 HDO.out).mono ?_;rintro e w' ⟨rfl,rfl⟩)
 clear b_0 lA2 lA1;have hbz:Below w2 w2 ((w2.alloc (.cells cY 70)).alloc (.cells cZ 27)):=aJ;have hs0:Blk ((w2.alloc (.cells cY 70)).alloc (.cells cZ 27)) w2.heap.size 70 cY:=(Blk.new w2 70 cY).up (aJ)
 have hx0:Blk ((w2.alloc (.cells cY 70)).alloc (.cells cZ 27)) (w2.heap.size+1) 27 cZ:=by
  have:=Blk.new (w2.alloc (.cells cY 70)) 27 cZ;simpa using this
 refine nm (w2.heap.size+1) fun gx hgx=>?_;rw [←hgx] at hx0 ⊢;refine nm w2.heap.size fun gs hgs=>?_;rw [←hgs] at hs0 ⊢;refine nm (((w2.alloc (.cells cY 70)).alloc (.cells cZ 27))) fun Y hY=>?_;rw [←hY] at hbz hs0 hx0 ⊢;have hgisz:=(HI.out.up hb2).lt;have hgis:gi<gs:=by omega
 have hgsx:gs<gx:=by omega
 have hgw:w.heap.size+2<gi:=by omega
 have HU1:=ħ ((HY1.out.up hb2).up hbz);have HU2:=ħ ((HY2.out.up hb2).up hbz);have HU3:=ħ ((HY3.out.up hb2).up hbz);have HUi:=ħ ((HI.out.up hb2).up hbz);have HUs:=ħ hs0;have HUx:=ħ hx0;have HOI:=ħ ((HOi.out.up hb2).up hbz);have hbU:=aA (aA hbY hb2) hbz;clear hY hgx hgs hs0 hx0 hbz hgisz hgiE hzX HY1 HY2 HY3 HI HOi hbY hb2;cases z
 · skip
   go_upto_region 46 with fail
   have HPi:=ħ (HOI.out.work HS.out);have HGi:=HUi;have HG2:=HU2;have HGx:=HUx;have hbB:=hbU;obtain ⟨S,hSd⟩:∃S:World→Prop,S=fun Q=>Blk Q gi 27 (cW D Pi)∧Blk Q (w.heap.size+1) 51 (cJ a MP SP):=⟨_,rfl⟩;have hS:∀Q,Below Y Y Q→S Q:=fun Q hQ=>by rw [hSd];exact ⟨HGi.out.up hQ,HG2.out.up hQ⟩
   have hS3:∀Q,S Q→Q.rangeAt gi 0 (cW D Pi):=fun Q h=>by rw [hSd] at h;exact fun j u hu=>by (rw [Nat.zero_add]);exact h.1.box.2 j u hu
   have hS5:∀Q,S Q→Q.cell? ⟨w.heap.size+1,25,none⟩=some (.slice SP.A SP.n SP.c):=fun Q h=>by rw [hSd] at h;exact h.2.box.2 25 _ rfl
   have hSr:∀Q,S Q→∀(a0 a1 a2 a3 a4 a5 a6 a7 a8:Value),S (kA Q gx a0 a1 a2 a3 a4 a5 a6 a7 a8):=fun Q h a0 a1 a2 a3 a4 a5 a6 a7 a8=>by rw [hSd] at h ⊢;exact ⟨h.1.sets9 y2 a0 a1 a2 a3 a4 a5 a6 a7 a8,h.2.sets9 y2 a0 a1 a2 a3 a4 a5 a6 a7 a8⟩
   clear hSd;refine hd hS fun hHeld=>?_;have hbd:=bdr Y;have hZ:=hHeld;generalize Y.drew=Z at *;refine ld 0 173 hS3 underlying27 ?_;refine tk 1 174 ?_;refine tq 2 175 hS5 ?_;refine ry 3 fun K hK=>?_;go_simp;(go_at_call 29;refine (bN SP.A SP.n SP.c a.l _ (HSP.out.up (aA hbB hbd)) (Nat.le_trans HN.out y5)).mono ?_;rintro e wn ⟨v,rfl,ho,hbn⟩;obtain ⟨nA,nc,e7,hI,_⟩:=ho.ints (Nat.le_trans (Nat.le_of_eq HLN.out) (Nat.le_trans HN.out y5));rw [HLN.out] at e7 hI;subst e7)
   have hbn2:=aA hbd hbn;have HNI:=ħ hI;clear ho hI;refine hkq hK (hS _ hbn2) fun hHeld=>?_;clear hK K;refine ry 4 fun K hK=>?_;go_simp;(go_at_call 57;refine (zN Pi D nA SP.n nc a.l false _ (HPi.out.up hbn2) HS.out HZ.out HNI.out (Nat.le_trans HN.out y5) (Nat.le_trans HNR.out y5)).mono ?_;rintro e wa ⟨he,hba0⟩;rw [if_neg y5] at he;simp only [aF.val,jF] at he;subst he)
   have hba:=aA hbn2 hba0;refine hkq hK (hS _ hba) fun hHeld=>?_;clear hK K;refine tk 5 172 ?_;refine tk 6 178 ?_;refine tk 7 179 ?_;refine ry 8 fun K hK=>?_;have HXa:=ħ (HGx.out.up hba);have hR:=HXa.out;have qf:=hR.frozen;have ql:=hR.lt;have h9:=hR.box;obtain ⟨q0,q1,q2,q3,q4,q5,q6,q7,q8⟩:=bx9 h9;clear h9 hR;go_simp;clear qf ql q0 q1 q2 q3 q4 q5 q6 q7 q8;refine hkq hK (nZ (hSr _ (hS _ hba))) fun hHeld=>?_;clear hK K;refine tk 9 12 ?_;refine wz ?_;have hli:=HUi.out.lt;have hXa:=HXa.out;have fXa:=hXa.frozen;have lXa:=hXa.lt;clear hXa;go_upto_region 53 with fail
   rename_i K9 hK9;refine nm wa.heap.size fun gq hgq=>?_;refine nm (((kZ wa gx:World).alloc (.cells cY 70))) fun W hW=>?_;have hal:Below (kZ wa gx:World).heap.size (kZ wa gx) W:=by rw [hW];exact aB (Below.refl _ _)
   have hqB:Blk W gq 70 cY:=by
    rw [hW,hgq];have:=Blk.new (kZ wa gx) 70 cY;simpa [World.setCell] using this
   rw [←hW,← hgq];clear hW hgq;have hsx:=nZ (gF HXa.out rfl);have htk:aC 27 Y W:=(aC.of_below hba).trans ((nZ (aC.sets9 HXa.out)).trans (aC.of_below hal));have hblk:∀g t cs,Blk Y g t cs→g≠gx→Blk W g t cs:=fun g t cs h hne=>(nZ ((h.up hba).sets9 hne)).up hal;have hbWw:Below w w W:=(nZ (bU (aA hbU hba) y2)).trans (hal.mono y40);have hBW:Y.heap.size≤W.heap.size:=by have h2:=hba.size;have h3:=hal.size;simp [World.setCell] at h3;omega
   have l1:=HU1.out.lt;have l3:=HU3.out.lt;have hwB:=hbU.size
   exact dX w W Y.heap.size w.heap.size (w.heap.size+1+1) gi gq gx P Pi jG jG D cH 1 y47 none none 0 0 0 0 hK9 hbWw hwB hBW y2 l3 y2 y2 (by intro e;rw [e] at hqB;have h9:=hblk _ _ _ HU3.out y2;have h8:W.heap[w.heap.size+1+1]? =some (.cells cY 70 (0,0)):=hqB;have h7:W.heap[w.heap.size+1+1]? =some (.cells cZ 27 (0,0)):=h9;rw [h8] at h7;simp at h7)
    (fun Y' hY'=>⟨H.out.up (hbWw.trans (hY'.mono hwB)),(HOI.out.tk (cI htk hY') aU).work HS.out,(hblk _ _ _ HU1.out y2).below hY' l1,(hblk _ _ _ HUi.out y2).below hY' hli,(hblk _ _ _ HU3.out y2).below hY' l3⟩)
    (fun Y' hY'=>⟨lY _,hqB.up hY'⟩) (fun h=>absurd h y5)
    (fun h=>absurd h y5)
    (hsx.up hal) (jS _ _) gC y5 y5 y5 y5 (fun x hx=>by simp [cH] at hx) (fun x hx=>by simp [cH] at hx)
    (fun Y' hY'=>bO none 0 0 none 0 0 [] Y' (eJ.nil _) (eJ.nil _)) (fun Y' hY' hk=>(cG Y').mono fun e w' h=>⟨h.1,h.2.mono (Nat.le_trans hBW hY'.size)⟩)
 · skip
   go_upto_region 45 with fail
   have lx1:=HU1.out.lt;have lx2:=HU2.out.lt;have b_25:=HU2.out.box.2 25 _ rfl;obtain ⟨a_0,a_1,a_2,a_3,a_4,a_5,a_6,a_7,a_8⟩:=bx9 HU1.out.box;go_upto_region 46 with (go_at_call 56;refine (Ek P D SP.A SP.n SP.c a.l _ (H.out.up hbU) (HSP.out.up hbU) (Nat.le_trans HN.out y5) (Nat.le_trans HNR.out y5) HS.out).mono ?_;rintro e w6 ⟨P5,he,hO6,hb6⟩;simp only [aF.val] at he;subst he;have hs6:=HUs.out.up hb6;have f6:=hs6.frozen;have l6:=hs6.lt;obtain ⟨s_0,s_1,s_2,s_3,s_4,s_5,s_6,s_7,s_8,s_9⟩:=gO hs6.box;have HS6:=ħ hs6;have HO60:=ħ hO6;clear hs6 hO6)
   have hG6:Blk (kW w6 gs (jH D a.l) P5) gs 70 (cS (jH D a.l) P5 none 0 0):=((((((((HS6.out.set_ 0 _).set_ 1 _).set_ 2 _).set_ 3 _).set_ 4 _).set_ 5 _).set_ 6 _).set_ 7 _).set_ 8 _;have htk6:=nW (jH D a.l) P5 (aC.sets9 HS6.out);have hO6:=HO60.out.tkR htk6;have hbut6:But Y.heap.size gs Y (kW w6 gs (jH D a.l) P5):=(((((((((But.of_below hb6).setg).setg).setg).setg).setg).setg).setg).setg).setg;refine nm (kW w6 gs (jH D a.l) P5:World) fun Yc hYc=>?_;rw [←hYc] at hG6 hO6 hbut6 ⊢;clear hYc htk6 HS6 HO60 a_0 a_1 a_2 a_3 a_4 a_5 a_6 a_7 a_8 s_0 s_1 s_2 s_3 s_4 s_5 s_6 s_7 s_8 s_9 f6 l6 lx1 lx2 b_25 hb6;have HGs:=ħ hG6;have HO5:=ħ hO6;clear hG6 hO6;have HG1:=ħ (But.blk hbut6 HU1.out HU1.out.lt y2);have HG2:=ħ (But.blk hbut6 HU2.out HU2.out.lt y2);have HG3:=ħ (But.blk hbut6 HU3.out HU3.out.lt y2);have HGi:=ħ (But.blk hbut6 HUi.out HUi.out.lt y2);have HGx:=ħ (But.blk hbut6 HUx.out HUx.out.lt y2);have HGO:=ħ (HOI.out.tkR (aC.of_but HUs.out hbut6));have hbB:Below w w Yc:=hbU.trans ((hbut6.below (Nat.le_of_lt HUs.out.lt)).mono y2);have HPi:=ħ (HGO.out.work HS.out);clear HU1 HU2 HU3 HUi HUs HUx HOI hbU hbut6;obtain ⟨S,hSd⟩:∃S:World→Prop,S=fun Q=>Blk Q gi 27 (cW D Pi)∧Blk Q (w.heap.size+1) 51 (cJ a MP SP):=⟨_,rfl⟩;have hS:∀Q,Below Yc Yc Q→S Q:=fun Q hQ=>by rw [hSd];exact ⟨HGi.out.up hQ,HG2.out.up hQ⟩
   have hS3:∀Q,S Q→Q.rangeAt gi 0 (cW D Pi):=fun Q h=>by rw [hSd] at h;exact fun j u hu=>by (rw [Nat.zero_add]);exact h.1.box.2 j u hu
   have hS5:∀Q,S Q→Q.cell? ⟨w.heap.size+1,25,none⟩=some (.slice SP.A SP.n SP.c):=fun Q h=>by rw [hSd] at h;exact h.2.box.2 25 _ rfl
   have hSr:∀Q,S Q→∀(a0 a1 a2 a3 a4 a5 a6 a7 a8:Value),S (kA Q gx a0 a1 a2 a3 a4 a5 a6 a7 a8):=fun Q h a0 a1 a2 a3 a4 a5 a6 a7 a8=>by rw [hSd] at h ⊢;exact ⟨h.1.sets9 y2 a0 a1 a2 a3 a4 a5 a6 a7 a8,h.2.sets9 y2 a0 a1 a2 a3 a4 a5 a6 a7 a8⟩
   clear hSd;refine hd hS fun hHeld=>?_;have hbd:=bdr Yc;have hZ:=hHeld;generalize Yc.drew=Z at *;refine ld 0 173 hS3 underlying27 ?_;refine tk 1 174 ?_;refine tq 2 175 hS5 ?_;refine ry 3 fun K hK=>?_;go_simp;(go_at_call 29;refine (bN SP.A SP.n SP.c a.l _ (HSP.out.up (aA hbB hbd)) (Nat.le_trans HN.out y5)).mono ?_;rintro e wn ⟨v,rfl,ho,hbn⟩;obtain ⟨nA,nc,e7,hI,_⟩:=ho.ints (Nat.le_trans (Nat.le_of_eq HLN.out) (Nat.le_trans HN.out y5));rw [HLN.out] at e7 hI;subst e7)
   have hbn2:=aA hbd hbn;have HNI:=ħ hI;clear ho hI;refine hkq hK (hS _ hbn2) fun hHeld=>?_;clear hK K;refine ry 4 fun K hK=>?_;go_simp;(go_at_call 57;refine (zN Pi D nA SP.n nc a.l true _ (HPi.out.up hbn2) HS.out HZ.out HNI.out (Nat.le_trans HN.out y5) (Nat.le_trans HNR.out y5)).mono ?_;rintro e wa ⟨he,hba0⟩;obtain ⟨P8,he,hO8⟩:=(if_pos rfl:(if true=true then _ else _)=_)▸he;simp only [aF.val,jF] at he;subst he)
   have hba:=aA hbn2 hba0;refine hkq hK (hS _ hba) fun hHeld=>?_;clear hK K;refine tk 5 172 ?_;refine tk 6 178 ?_;refine tk 7 179 ?_;refine ry 8 fun K hK=>?_;have HXa:=ħ (HGx.out.up hba);have hR:=HXa.out;have qf:=hR.frozen;have ql:=hR.lt;have h9:=hR.box;obtain ⟨q0,q1,q2,q3,q4,q5,q6,q7,q8⟩:=bx9 h9;clear h9 hR;go_simp;clear qf ql q0 q1 q2 q3 q4 q5 q6 q7 q8;refine hkq hK (nW (jH D a.l) P8 (hSr _ (hS _ hba))) fun hHeld=>?_;clear hK K;refine tk 9 12 ?_;refine wz ?_;go_upto_region 53 with fail
   rename_i K9 hK9;have hsx:=nW (jH D a.l) P8 (gF HXa.out rfl);have hO8w:=(hO8.mono (Nat.le_trans (Nat.le_refl _) hbn2.size)).tk (nW (jH D a.l) P8 (aC.sets9 HXa.out)) aU;have htk:aC 27 Yc (kW wa gx (jH D a.l) P8):=(aC.of_below hba).trans (nW (jH D a.l) P8 (aC.sets9 HXa.out));have hblk:∀g t cs,Blk Yc g t cs→g≠gx→Blk (kW wa gx (jH D a.l) P8) g t cs:=fun g t cs h hne=>nW (jH D a.l) P8 ((h.up hba).sets9 hne);have hbWw:=nW (jH D a.l) P8 (bU (g:=gx) (aA hbB hba) y2);have hBW:Yc.heap.size≤(kW wa gx (jH D a.l) P8:World).heap.size:=by have h2:=hba.size;simp [World.setCell];exact h2
   refine nm (kW wa gx (jH D a.l) P8:World) fun W hW=>?_;rw [←hW] at hsx hO8w htk hblk hbWw hBW ⊢;clear hW;have l1:=HG1.out.lt;have l3:=HG3.out.lt;have ls:=HGs.out.lt;have hli:=HGi.out.lt;have hwB:=hbB.size;have hR8:=hO8w.work HBG.out
   exact dX w W Yc.heap.size w.heap.size (w.heap.size+1+1) gi gs gx P Pi P5 P8 D (jH D a.l) 0 y56 none none 0 0 0 0 hK9 hbWw hwB hBW y2 l3 y2 y2 y2
    (fun Y' hY'=>⟨H.out.up (hbWw.trans (hY'.mono hwB)),(HGO.out.tk (cI htk hY') aU).work HS.out,(hblk _ _ _ HG1.out y2).below hY' l1,(hblk _ _ _ HGi.out y2).below hY' hli,(hblk _ _ _ HG3.out y2).below hY' l3⟩)
    (fun Y' hY'=>⟨(HO5.out.tk (cI htk (hY'.mono hBW)) aU).work HBG.out,(hblk _ _ _ HGs.out y2).up hY'⟩) (fun _ Y' hY'=>(hblk _ _ _ HGs.out y2).below hY' ls)
    (fun _ Y' hY' Z hZ hz=>((HO5.out.tk (cI htk hY') aU).tk hZ aU).work HBG.out)
    hsx hO8w HBG.out y54 y43 y42 (by have e1:=hR8.re.1;rw [←e1];exact HRL.out) HSM.out.2.2.2.1 HSM.out.2.2.2.2
    (fun Y' hY'=>bO none 0 0 none 0 0 [] Y' (eJ.nil _) (eJ.nil _)) (fun Y' hY' hk=>(cG Y').mono fun e w' h=>⟨h.1,h.2.mono (Nat.le_trans hBW hY'.size)⟩)
structure Sz (i:Nat) (D:aD):Prop where
 op:D.op.length≤12000+i
 wa:D.wa.length≤12000+i
 he:D.he.length≤200+i
 re:D.re.length+D.wa.length≤24000+12000*i
 ak:∀x∈D.wa,x.ak.length≤12000+i
 hx:∀x∈D.he,x.b.tx.length≤12000+i
theorem Sz.sm {i:Nat} {D:aD} (h:Sz i D) (hi:i≤13):D.op.length≤1000000∧D.wa.length≤1000000∧D.he.length≤1000000∧D.re.length≤1000000∧(∀x∈D.wa,x.ak.length≤1000000)∧(∀x∈D.he,x.b.tx.length≤1000000):=by
 obtain ⟨h1,h2,h3,h4,h5,h6⟩:=h;exact ⟨by omega,by omega,by omega,by omega,fun x hx=>by have:=h5 x hx;omega,fun x hx=>by have:=h6 x hx;omega⟩
theorem Sz.big {i:Nat} {D:aD} (h:Sz i D) (hi:i≤13):dY D:=by
 obtain ⟨h1,h2,h3,h4,h5,h6⟩:=h.sm hi;exact ⟨by omega,⟨by omega,fun x hx=>by have:=h5 x hx;omega⟩,⟨by omega,fun x hx=>by have:=h6 x hx;omega⟩,by omega⟩
theorem Sz.small {i:Nat} {D:aD} (h:Sz i D) (hi:i≤12):sC D:=by
 obtain ⟨h1,h2,h3,h4,h5,h6⟩:=h;exact ⟨by omega,by omega,by omega,by omega,fun x hx=>by have:=h5 x hx;omega,fun x hx=>by have:=h6 x hx;omega⟩
theorem Sz.next {i:Nat} {D:aD} (h:Sz i D):Sz (i+1) D:=by
 obtain ⟨h1,h2,h3,h4,h5,h6⟩:=h;exact ⟨by omega,by omega,by omega,by omega,fun x hx=>by have:=h5 x hx;omega,fun x hx=>by have:=h6 x hx;omega⟩
theorem Sz.add {i:Nat} {D:aD} (h:Sz i D) (t:TxD):Sz (i+1) (eL D t):=
 ⟨by show (D.op ++ [t]).length≤_;rw [List.length_append];have:=h.op;simp;omega,h.next.wa,h.next.he,h.next.re,h.next.ak,h.next.hx⟩
theorem AS (n:Int):∀(l:List aV) (r:List Int),(bE n r l).length+(bH n l).length≤r.length+l.length
 | [],r=>by simp [bE,bH]
 | x :: l,r=>by
  have h:=AS n l (if (x.ak.length:Int)<qS n then r else if cQ r x.di then r else r ++ [x.di]);have e1:bE n r (x :: l)=bE n (if (x.ak.length:Int)<qS n then r else if cQ r x.di then r else r ++ [x.di]) l:=by rw [bE]
  have e2:bH n (x :: l)=if (x.ak.length:Int)<qS n then x :: bH n l else bH n l:=by unfold bH;rw [List.filter_cons];simp
  rw [e1,e2];by_cases h1:(x.ak.length:Int)<qS n
  · rw [if_pos h1] at h;rw [if_pos h1,if_pos h1];simp only [List.length_cons];omega
  · rw [if_neg h1] at h;rw [if_neg h1,if_neg h1];simp only [List.length_cons];by_cases h2:cQ r x.di=true
    · rw [if_pos h2] at h;rw [if_pos h2];omega
    · rw [if_neg h2] at h;rw [if_neg h2];rw [List.length_append] at h;simp only [List.length_cons,List.length_nil] at h;omega
theorem BV (n:Int) (l:List aV):(bH n l).length≤l.length:=List.length_filter_le _ _
theorem BW {n:Int} {l:List aV} {x:aV} (h:x∈bH n l):x∈l:=(List.mem_filter.1 (show x∈List.filter _ _ from h)).1
theorem Sz.seal {i:Nat} {D:aD} (h:Sz i D) (d:Int):Sz (i+1) (cF D d):=by
 have h1:=h.op;have h2:=h.wa;have h3:=h.he;have h4:=h.re;have hsl:=uC D d;have hk:=AS D.nodes (dR D d) D.re;have hl:=BV D.nodes (dR D d);refine ⟨?_,?_,?_,?_,fun x hx=>?_,fun x hx=>?_⟩
 · show (D.op.drop 8).length≤_;rw [List.length_drop];omega
 · show (bH D.nodes (dR D d)).length≤_;omega
 · show (bM D.he (bB D.he d) _).length≤_;rw [cP (show bB D.he d≤D.he.length from gD _ _)];omega
 · show (bE D.nodes D.re (dR D d)).length+(bH D.nodes (dR D d)).length≤_;omega
 · rcases uD (BW (show x∈bH D.nodes (dR D d) from hx)) with rfl|hx
   · simp;omega
   · exact h.next.ak x hx
 · rcases mD (show x∈bM D.he (bB D.he d) ⟨d,nxD D⟩ from hx) with rfl|hx
   · have:=Av D;show (nxD D).tx.length≤_;omega
   · exact h.next.hx x hx
theorem Sz.out {i:Nat} {D:aD} (h:Sz i D) (l:List Int):Sz (i+1) (jH D l):=
 ⟨h.next.op,h.next.wa,h.next.he,by show (jL l D.re).length+D.wa.length≤_;have h1:(jL l D.re).length≤D.re.length:=List.length_filter_le _ _;have:=h.re;omega,h.next.ak,h.next.hx⟩
theorem Sz.into {i:Nat} {D:aD} (h:Sz i D) {l:List Int} (hl:l.length≤12000):Sz (i+1) (inW D l):=
 ⟨h.next.op,h.next.wa,h.next.he,by
  have h2:=Aq D.re l l.length (Nat.le_refl _);rw [List.take_length] at h2;show (fsF D.re l ++ D.re).length+D.wa.length≤_;rw [List.length_append];have:=h.re;omega,h.next.ak,h.next.hx⟩
theorem Sz.tick {i:Nat} {D:aD} (h:Sz i D):Sz (i+1) (aG D):=⟨h.next.op,h.next.wa,h.next.he,h.next.re,h.next.ak,h.next.hx⟩
theorem Sz.held {i:Nat} {D:aD} (h:Sz i D) {M:aY} (hm:M.b.tx.length≤12000):Sz (i+1) (rS D M):=by
 unfold rS;split
 · refine ⟨h.next.op,h.next.wa,?_,h.next.re,h.next.ak,fun x hx=>?_⟩
   · show (bM D.he _ _).length≤_;rw [cP (show bB D.he M.di≤D.he.length from gD _ _)];have:=h.he;omega
   · rcases mD (show x∈bM D.he _ _ from hx) with rfl|hx
     · show M.b.tx.length≤_;omega
     · exact h.next.hx x hx
 · exact h.next
theorem Sz.told {i:Nat} {D:aD} (h:Sz i D) (who d:Int):Sz (i+1) (Br D who d):=by
 have hwl:=sD D.wa who d;have h2:=h.wa;have h4:=h.re;have hk:=AS D.nodes (iR D.wa who d) D.re;have hl:=BV D.nodes (iR D.wa who d);refine ⟨h.next.op,?_,h.next.he,?_,fun x hx=>?_,h.next.hx⟩
 · show (bH D.nodes (iR D.wa who d)).length≤_;omega
 · show (bE D.nodes D.re (iR D.wa who d)).length+(bH D.nodes (iR D.wa who d)).length≤_;omega
 · rcases AG (BW (show x∈bH D.nodes (iR D.wa who d) from hx)) with hx3|⟨y,hy,rfl⟩
   · exact h.next.ak x hx3
   · have:=AF y.ak who;have:=h.ak y hy;show (iQ y.ak who).length≤_;omega
theorem F8 {w:World} {P:uN} {D:wN} (h:AD w P D) (hL:DQ P D):Sz 0 D.w:=by
 have h1:=hL.op;have h2:=hL.wa;have h3:=hL.he;have h4:=hL.re;have e1:=h.wk.op.1;have e2:=h.wk.wa.1;have e3:=h.wk.he.1;have e4:=h.wk.re.1;exact ⟨by omega,by omega,by omega,by omega,fun x hx=>by have:=hL.ak x hx;omega,fun x hx=>by have:=hL.hx x hx;omega⟩
end Go.Proofs.YtgfakefcmbpboaaGreat
