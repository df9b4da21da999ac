/- Part 31 of what WorkerExact leans on. No conditions. -/
import Derived.Test.YtgfakefcmbpboaaGreatV30
namespace Go.Proofs.YtgfakefcmbpboaaGreat
set_option linter.all false
set_option maxRecDepth 100000
set_option maxHeartbeats 64000000
open _root_.Go.Proofs.Tryz Go.RowKit
open Tok
noncomputable def kD (D:aD) (d:Int):Int:=if nxE D≠0 then nxE D else if fX d=false then 1 else if dL D.he d=true then 4 else 0
theorem zI {D:aD} {d:Int} (h:kD D d≠0):(∃y,nxE D=y∧y≠0∧kD D d=y)∨(nxE D=0∧fX d=false∧kD D d=1)∨(nxE D=0∧fX d=true∧dL D.he d=true∧kD D d=4):=by
 unfold kD at h ⊢;by_cases h1:nxE D=0
 · rw [if_neg (by simpa using h1)] at h ⊢;cases h2:fX d
   · exact .inr (.inl ⟨h1,rfl,by rw [if_pos rfl]⟩)
   · rw [h2] at h;rw [if_neg y17] at h ⊢;cases h3:dL D.he d
     · rw [h3,if_neg y17] at h;exact absurd rfl h
     · exact .inr (.inr ⟨h1,rfl,rfl,by rw [if_pos rfl]⟩)
 · exact .inl ⟨_,rfl,h1,by rw [if_pos h1]⟩
theorem En {D:aD} {d:Int} (h:kD D d=0):nxE D=0∧fX d=true∧dL D.he d=false:=by
 unfold kD at h;by_cases h1:nxE D=0
 · rw [if_neg (by simpa using h1)] at h;cases h2:fX d
   · rw [h2,if_pos rfl] at h;cases h
   · rw [if_neg (by rw [h2];simp)] at h;cases h3:dL D.he d
     · exact ⟨h1,rfl,rfl⟩
     · rw [h3,if_pos rfl] at h;cases h
 · rw [if_pos h1] at h;exact absurd h h1
theorem Bu (P:aF) (D:aD) (d:Int) (w:World) (h:bG w P D) (hs:dY D) (hm:dZ D=true) (hE:kD D d≠0) :
 Calls prog 88 #[P.val D,d] w fun e w'=>e=.returned (.tuple #[jF,n0,.int .i64 (kD D d)])∧Below w w w':=by
 have hM:=cX.1 hm;have H:=ħ h;have HS:=ħ hs;have HSH:Hid (dQ D.he):=ħ (fD.1 hM.2.2.2.2.2.2.2.2.2.2.1).sorted;have HHL:=ħ hM.2.2.2.2.2.2.2.1;clear h hs hm hM;rcases zI hE with ⟨y,hy,hy0,he⟩|⟨hy,hd,he⟩|⟨hy,hd,hk,he⟩
 · rw [he];have HY:=ħ hy;have hyy:(y != 0)=true:=by simpa using hy0
   have HY0:=ħ hy0;clear hE hy he hy0;show Calls prog 88 #[.agg (cW D P),d] w _;go_enter func88,ntmps88
   go_wp2_with fail
   have hX1:Blk ((w.alloc (.cells (cW D P) 27)).alloc (.cells cZ 27)) w.heap.size 27 (cW D P):=(Blk.new w 27 (cW D P)).up (aJ)
   have hX3:Blk ((w.alloc (.cells (cW D P) 27)).alloc (.cells cZ 27)) (w.heap.size+1) 27 cZ:=by
    have:=Blk.new (w.alloc (.cells (cW D P) 27)) 27 cZ;simpa using this
   have hbX:Below w w ((w.alloc (.cells (cW D P) 27)).alloc (.cells cZ 27)):=aJ;generalize ((w.alloc (.cells (cW D P) 27)).alloc (.cells cZ 27))=X at *;have HX1:=ħ hX1;have HX3:=ħ hX3;clear hX1 hX3;refine (tR P D y _ (H.out.up hbX) HY.out HY0.out HHL.out).mono ?_;rintro e w1 ⟨rfl,hb1⟩;have hY1:=HX1.out.up hb1;have l1:=hY1.lt;obtain ⟨a_0,a_1,a_2,a_3,a_4,a_5,a_6,a_7,a_8⟩:=bx9 hY1.box;have hY3:=HX3.out.up hb1;have l3:=hY3.lt;have f3:=hY3.frozen;obtain ⟨c_0,c_1,c_2,c_3,c_4,c_5,c_6,c_7,c_8⟩:=bx9 hY3.box;have hbY:=aA hbX hb1;clear hY1 hY3 HX1 HX3 hb1 hbX;go_wp2_with fail
   exact bodyPost_ret (v:=.tuple #[.agg cZ,n0,y]) (by simp [results,results88,go_sem, *]) rfl ⟨rfl,aI⟩
 · rw [he];have HE:=ħ hy;have HD:=ħ hd;clear hE hy he hd;show Calls prog 88 #[.agg (cW D P),d] w _;go_enter func88,ntmps88
   go_wp2_with fail
   have hX1:Blk ((w.alloc (.cells (cW D P) 27)).alloc (.cells cZ 27)) w.heap.size 27 (cW D P):=(Blk.new w 27 (cW D P)).up (aJ)
   have hX3:Blk ((w.alloc (.cells (cW D P) 27)).alloc (.cells cZ 27)) (w.heap.size+1) 27 cZ:=by
    have:=Blk.new (w.alloc (.cells (cW D P) 27)) 27 cZ;simpa using this
   have hbX:Below w w ((w.alloc (.cells (cW D P) 27)).alloc (.cells cZ 27)):=aJ;generalize ((w.alloc (.cells (cW D P) 27)).alloc (.cells cZ 27))=X at *;have HX1:=ħ hX1;have HX3:=ħ hX3;clear hX1 hX3;refine (jD P D _ (H.out.up hbX) HE.out HS.out.op).mono ?_;rintro e w1 ⟨v1,rfl,ho1,hb1⟩;obtain ⟨vA,vc,rfl,-⟩:=ho1.txs y34;clear ho1;have hY1:=HX1.out.up hb1;have l1:=hY1.lt;obtain ⟨a_0,a_1,a_2,a_3,a_4,a_5,a_6,a_7,a_8⟩:=bx9 hY1.box;have hY3:=HX3.out.up hb1;have l3:=hY3.lt;have f3:=hY3.frozen;obtain ⟨c_0,c_1,c_2,c_3,c_4,c_5,c_6,c_7,c_8⟩:=bx9 hY3.box;have hbY:=aA hbX hb1;clear hY1 hY3 HX1 HX3 hb1 hbX;go_wp2_with (go_at_call 110;refine (bR d false _ HD.out).mono ?_;rintro e w' ⟨rfl,rfl⟩)
   exact bodyPost_ret (v:=.tuple #[.agg cZ,n0,.int .i64 1]) (by simp [results,results88,go_sem, *]) rfl ⟨rfl,aI⟩
 · rw [he];have HE:=ħ hy;have HD:=ħ hd;have HK:=ħ hk;have hen:P.he.n≤1000000000:=by have e1:=H.out.he.1;have:=HHL.out;omega
   clear hE hy he hd hk;show Calls prog 88 #[.agg (cW D P),d] w _;go_enter func88,ntmps88
   go_wp2_with fail
   have hX1:Blk ((w.alloc (.cells (cW D P) 27)).alloc (.cells cZ 27)) w.heap.size 27 (cW D P):=(Blk.new w 27 (cW D P)).up (aJ)
   have hX3:Blk ((w.alloc (.cells (cW D P) 27)).alloc (.cells cZ 27)) (w.heap.size+1) 27 cZ:=by
    have:=Blk.new (w.alloc (.cells (cW D P) 27)) 27 cZ;simpa using this
   have hbX:Below w w ((w.alloc (.cells (cW D P) 27)).alloc (.cells cZ 27)):=aJ;generalize ((w.alloc (.cells (cW D P) 27)).alloc (.cells cZ 27))=X at *;have HX1:=ħ hX1;have HX3:=ħ hX3;clear hX1 hX3;refine (jD P D _ (H.out.up hbX) HE.out HS.out.op).mono ?_;rintro e w1 ⟨v1,rfl,ho1,hb1⟩;obtain ⟨vA,vc,rfl,-⟩:=ho1.txs y34;clear ho1;have HZ1:=ħ (HX1.out.up hb1);have HZ3:=ħ (HX3.out.up hb1);have hbY0:=aA hbX hb1;have hY1:=HX1.out.up hb1;have l1:=hY1.lt;obtain ⟨a_0,a_1,a_2,a_3,a_4,a_5,a_6,a_7,a_8⟩:=bx9 hY1.box;have hY3:=HX3.out.up hb1;have l3:=hY3.lt;have f3:=hY3.frozen;obtain ⟨c_0,c_1,c_2,c_3,c_4,c_5,c_6,c_7,c_8⟩:=bx9 hY3.box;clear hY1 hY3 HX1 HX3 hb1 hbX;have hyy:(4:Int)≠0:=by decide
   have hdp:True:=trivial;refine mn (bB D.he d) fun lo hlo=>?_;have HLO:=ħ hlo;clear hlo
   go_wp2_with (first
    | (go_at_call 110;refine (bR d true _ HD.out).mono ?_;rintro e w' ⟨rfl,rfl⟩)
    | (go_at_call 118;refine (gZ P.he.A P.he.n P.he.c D.he d lo true _ (H.out.he.up (aB hbY0)) HSH.out hen HLO.out HK.out).mono ?_;rintro e w5 ⟨rfl,hb5⟩;have h15:=aA (aB (Below.refl w1.heap.size w1)) hb5;have hZ5:=HZ3.out.up h15;have l5:=hZ5.lt;have f5:=hZ5.frozen;clear a_0 a_1 a_2 a_3 a_4 a_5 a_6 a_7 a_8 c_0 c_1 c_2 c_3 c_4 c_5 c_6 c_7 c_8 l1 l3 f3;obtain ⟨c_0,c_1,c_2,c_3,c_4,c_5,c_6,c_7,c_8⟩:=bx9 hZ5.box;have hbY5:=aA hbY0 h15;clear hZ5 hb5 h15))
   exact bodyPost_ret (v:=.tuple #[.agg cZ,n0,.int .i64 4]) (by simp [results,results88,go_sem, *]) rfl ⟨rfl,aI⟩
theorem yR (P:aF) (D:aD) (d:Int) (w:World) (h:bG w P D) (hs:dY D) (hm:dZ D=true) (hE:kD D d≠0) :
 Calls prog 47 #[P.val D,d] w fun e w'=>e=.returned (.tuple #[jF,n0,.int .i64 (kD D d)])∧Below w w w':=by
 have H:=ħ h;have HS:=ħ hs;have HM:=ħ hm;have HE:=ħ hE;refine mn (kD D d) fun se hse=>?_;have HSE:=ħ hse;rw [hse];clear h hs hm hE hse;show Calls prog 47 #[.agg (cW D P),d] w _;go_enter func47,ntmps47
 go_wp2_with fail
 have hX1:Blk ((w.alloc (.cells (cW D P) 27)).alloc (.cells cZ 27)) w.heap.size 27 (cW D P):=(Blk.new w 27 (cW D P)).up (aJ)
 have hX3:Blk ((w.alloc (.cells (cW D P) 27)).alloc (.cells cZ 27)) (w.heap.size+1) 27 cZ:=by
  have:=Blk.new (w.alloc (.cells (cW D P) 27)) 27 cZ;simpa using this
 have hbX:Below w w ((w.alloc (.cells (cW D P) 27)).alloc (.cells cZ 27)):=aJ;generalize ((w.alloc (.cells (cW D P) 27)).alloc (.cells cZ 27))=X at *;have HX1:=ħ hX1;have HX3:=ħ hX3;clear hX1 hX3;refine (dK P D true _ (H.out.up hbX) HM.out).mono ?_;rintro e w1 ⟨rfl,hb1⟩;have hY1:=HX1.out.up hb1;have l1:=hY1.lt;obtain ⟨a_0,a_1,a_2,a_3,a_4,a_5,a_6,a_7,a_8⟩:=bx9 hY1.box;have HY3:=ħ (HX3.out.up hb1);have hbY:=aA hbX hb1;clear hY1 HX1 HX3 hb1 hbX;go_wp2_with fail
 refine (gU P D _ (H.out.up hbY) HS.out).mono ?_;rintro e w3 ⟨P2,he3,hO3,-,hb3⟩;simp only [aF.val] at he3;subst he3;have HO3:=ħ hO3;have HV3:=ħ (HY3.out.up hb3);have hbV:=aA hbY hb3;clear hO3 HY3 hb3 hbY l1 a_0 a_1 a_2 a_3 a_4 a_5 a_6 a_7 a_8;go_wp2_with fail
 refine (Bu P2 D d _ (HO3.out.work HS.out) HS.out HM.out HE.out).mono ?_;rintro e w4 ⟨he4,hb4⟩;rw [HSE.out] at he4;simp only [jF] at he4;subst he4;have hU3:=HV3.out.up hb4;have lU:=hU3.lt;have fU:=hU3.frozen;obtain ⟨c_0,c_1,c_2,c_3,c_4,c_5,c_6,c_7,c_8⟩:=bx9 hU3.box;have hbU:=aA hbV hb4;clear hU3 HV3 HO3 hbV hb4;go_wp2_with fail
 exact bodyPost_ret (v:=.tuple #[.agg cZ,n0,se]) (by simp [results,results47,go_sem, *]) rfl ⟨rfl,aI⟩
theorem xW (P:aF) (D:aD) (d:Int) (w:World) (h:bG w P D) (hm:dZ D=false) :
 Calls prog 47 #[P.val D,d] w fun e w'=>e=.returned (.tuple #[jF,n0,.int .i64 1])∧Below w w w':=by
 have H:=ħ h;have HM:=ħ hm;clear h hm;show Calls prog 47 #[.agg (cW D P),d] w _;go_enter func47,ntmps47
 go_wp2_with fail
 have hX1:Blk ((w.alloc (.cells (cW D P) 27)).alloc (.cells cZ 27)) w.heap.size 27 (cW D P):=(Blk.new w 27 (cW D P)).up (aJ)
 have hX3:Blk ((w.alloc (.cells (cW D P) 27)).alloc (.cells cZ 27)) (w.heap.size+1) 27 cZ:=by
  have:=Blk.new (w.alloc (.cells (cW D P) 27)) 27 cZ;simpa using this
 have hbX:Below w w ((w.alloc (.cells (cW D P) 27)).alloc (.cells cZ 27)):=aJ;generalize ((w.alloc (.cells (cW D P) 27)).alloc (.cells cZ 27))=X at *;have HX1:=ħ hX1;have HX3:=ħ hX3;clear hX1 hX3;refine (dK P D false _ (H.out.up hbX) HM.out).mono ?_;rintro e w1 ⟨rfl,hb1⟩;have hY1:=HX1.out.up hb1;have l1:=hY1.lt;obtain ⟨a_0,a_1,a_2,a_3,a_4,a_5,a_6,a_7,a_8⟩:=bx9 hY1.box;have hY3:=HX3.out.up hb1;have l3:=hY3.lt;have f3:=hY3.frozen;obtain ⟨c_0,c_1,c_2,c_3,c_4,c_5,c_6,c_7,c_8⟩:=bx9 hY3.box;have hbY:=aA hbX hb1;clear hY1 hY3 HX1 HX3 hb1 hbX;go_wp2_with fail
 exact bodyPost_ret (v:=.tuple #[.agg cZ,n0,.int .i64 1]) (by simp [results,results47,go_sem, *]) rfl ⟨rfl,aI⟩
theorem Aa (P:aF) (D:aD) (d:Int) (w:World) (h:bG w P D) (hs:dY D) (hm:dZ D=true) (hE:kD D d≠0) :
 Calls prog 46 #[P.val D,d] w fun e w'=>∃gs,e=.returned (.tuple #[.pointer (some ⟨gs,0,none⟩),.int .i64 (kD D d)])∧Below w w w':=by
 have hM:=cX.1 hm;have HSH:Hid (dQ D.he):=ħ (fD.1 hM.2.2.2.2.2.2.2.2.2.2.1).sorted;have HHL:=ħ hM.2.2.2.2.2.2.2.1;have H:=ħ h;have HS:=ħ hs;have HE:=ħ hE;refine mn (kD D d) fun se hse=>?_;have HSE:=ħ hse;rw [hse];clear h hs hm hE hM hse;show Calls prog 46 #[.agg (cW D P),d] w _;go_enter func46,ntmps46
 go_wp2_with fail
 have hX1:Blk (w.alloc (.cells (cW D P) 27)) w.heap.size 27 (cW D P):=Blk.new w 27 (cW D P);have hbX:Below w w (w.alloc (.cells (cW D P) 27)):=aJ;generalize (w.alloc (.cells (cW D P) 27))=X at *;refine (bK P D _ (H.out.up hbX) HS.out).mono ?_;rintro e w1 ⟨⟨⟨oA,on,oc⟩,⟨tA,tn,tc⟩,⟨eA,en,ec⟩,⟨rA,rn,rc⟩⟩,he1,hO1,hb1⟩;simp only [aF.val] at he1;subst he1;have hB1:=hX1.up hb1;have lb1:=hB1.lt;obtain ⟨a_0,a_1,a_2,a_3,a_4,a_5,a_6,a_7,a_8⟩:=bx9 hB1.box;have hbw1:=aA hbX hb1;have HO1:=ħ hO1;have HB1:=ħ hB1;clear hX1 hO1 hb1 hbX hB1;go_upto_region 2 with fail
 have hba:Below w1 w1 (w1.alloc (.cells (cU D oA on oc tA tn tc eA en ec rA rn rc none 0 0) 70)):=aB (Below.refl _ _);have HG2:Hid (Blk (w1.alloc (.cells (cU D oA on oc tA tn tc eA en ec rA rn rc none 0 0) 70)) w1.heap.size 70 (cU D oA on oc tA tn tc eA en ec rA rn rc none 0 0)):=ħ (Blk.new w1 70 (cU D oA on oc tA tn tc eA en ec rA rn rc none 0 0));refine nm w1.heap.size fun gs hgs=>?_;refine nm (w1.alloc (.cells (cU D oA on oc tA tn tc eA en ec rA rn rc none 0 0) 70)) fun W2 hW2=>?_;rw [←hW2,← hgs] at HG2 ⊢;rw [←hW2] at hba;clear hW2 hgs a_0 a_1 a_2 a_3 a_4 a_5 a_6 a_7 a_8 lb1;have hbw2:=aA hbw1 hba;have hB2:=HB1.out.up hba;have lb2:=hB2.lt;obtain ⟨a_0,a_1,a_2,a_3,a_4,a_5,a_6,a_7,a_8⟩:=bx9 hB2.box;have HO2:=ħ (HO1.out.up hba);clear hB2 HB1 HO1 hbw1 hba;rcases zI HE.out with ⟨y,hy,hy0,he⟩|⟨hy,hd,he⟩|⟨hy,hd,hk,he⟩
 · have e9:se=y:=by rw [←HSE.out,he]
   subst e9;have HY:=ħ hy;have hyy:(se != 0)=true:=by simpa using hy0
   have HY0:=ħ hy0;clear hy he hy0;go_wp2_with (go_at_call 41;refine (uU P D se _ (H.out.up hbw2) HY.out HY0.out HHL.out).mono ?_;rintro e w3 ⟨rfl,hb3⟩;have hbw3:=aA hbw2 hb3;clear a_0 a_1 a_2 a_3 a_4 a_5 a_6 a_7 a_8 lb2)
   exact bodyPost_ret (v:=.tuple #[.pointer (some ⟨gs,0,none⟩),se]) y86 rfl ⟨_,rfl,aB hbw3⟩
 · have e9:se=1:=by rw [←HSE.out,he]
   subst e9;have HE0:=ħ hy;have HD:=ħ hd;clear hy he hd
   go_wp2_with (first
    | (go_at_call 41;refine (jR P D _ (H.out.up hbw2) HE0.out HS.out.op).mono ?_;rintro e w3 ⟨v3,rfl,ho3,hb3⟩;obtain ⟨bA,bc,rfl,-⟩:=ho3.txs y34;have hbw3:=aA hbw2 hb3;clear ho3 a_0 a_1 a_2 a_3 a_4 a_5 a_6 a_7 a_8 lb2)
    | (go_at_call 36;refine (dG d false _ HD.out).mono ?_;rintro e w' ⟨rfl,rfl⟩))
   exact bodyPost_ret (v:=.tuple #[.pointer (some ⟨gs,0,none⟩),.int .i64 1]) y86 rfl ⟨_,rfl,aB hbw3⟩
 · have e9:se=4:=by rw [←HSE.out,he]
   subst e9;have HE0:=ħ hy;have HD:=ħ hd;have hF:fC D.he d=(bB D.he d:Int):=by unfold fC;rw [if_pos hk]
   have HFI:=ħ hF;have hdp:decide (0≤(bB D.he d:Int))=true:=by simp only [decide_eq_true_eq];omega
   clear hy he hd hk hF
   go_wp2_with (first
    | (go_at_call 41;refine (jR P D _ (H.out.up hbw2) HE0.out HS.out.op).mono ?_;rintro e w3 ⟨v3,rfl,ho3,hb3⟩;obtain ⟨bA,bc,rfl,-⟩:=ho3.txs y34;have hbw3:=aA hbw2 hb3;have HG3:=ħ (HG2.out.up hb3);have HO3:=ħ (HO2.out.up hb3);clear ho3 a_0 a_1 a_2 a_3 a_4 a_5 a_6 a_7 a_8 lb2)
    | (go_at_call 36;refine (dG d true _ HD.out).mono ?_;rintro e w' ⟨rfl,rfl⟩)
    | (go_at_call 83;refine (eI gs _ _ _ _ _ _ _ _ _ eA en ec D.he d _ (HG3.out.up (aB (Below.refl _ _))) (((HO3.out.work HS.out).he).up (aB (Below.refl _ _))) HSH.out).mono ?_;rintro e w' ⟨rfl,rfl⟩;rw [HFI.out]))
   exact bodyPost_ret (v:=.tuple #[.pointer (some ⟨gs,0,none⟩),.int .i64 4]) y86 rfl ⟨_,rfl,aB hbw3⟩
theorem Av (D:aD):(nxD D).tx.length≤8:=by show (D.op.take 8).length≤8;rw [List.length_take];omega
structure sC (D:aD):Prop where
 op:D.op.length≤20000
 wa:D.wa.length≤20000
 he:D.he.length≤20000
 re:D.re.length≤200000
 ak:∀x∈D.wa,x.ak.length≤20000
 hx:∀x∈D.he,x.b.tx.length≤20000
theorem sC.seal {D:aD} (h:sC D) (d:Int):(cF D d).op.length≤1000000∧(cF D d).wa.length≤1000000∧(cF D d).he.length≤1000000∧(cF D d).re.length≤1000000∧(∀x∈(cF D d).wa,x.ak.length≤1000000)∧(∀x∈(cF D d).he,x.b.tx.length≤1000000):=by
 have h1:=h.op;have h2:=h.wa;have h3:=h.he;have h4:=h.re;have hsl:=uC D d;refine ⟨?_,?_,?_,?_,fun x hx=>?_,fun x hx=>?_⟩
 · show (D.op.drop 8).length≤_;rw [List.length_drop];omega
 · show (bH D.nodes (dR D d)).length≤_;have:(bH D.nodes (dR D d)).length≤(dR D d).length:=List.length_filter_le _ _;omega
 · show (bM D.he (bB D.he d) _).length≤_;rw [cP (show bB D.he d≤D.he.length from gD _ _)];omega
 · show (bE D.nodes D.re (dR D d)).length≤_;have:=nY D.nodes (dR D d) D.re;omega
 · have hx:x∈bH D.nodes (dR D d):=hx;rcases uD (List.mem_filter.1 hx).1 with rfl|hx
   · simp
   · have:=h.ak x hx;omega
 · rcases mD (show x∈bM D.he (bB D.he d) ⟨d,nxD D⟩ from hx) with rfl|hx
   · have:=Av D;show (nxD D).tx.length≤_;omega
   · have:=h.hx x hx;omega
theorem sC.sealBig {D:aD} (h:sC D) (d:Int):dY (cF D d):=by
 obtain ⟨h1,h2,h3,h4,h5,h6⟩:=h.seal d;exact ⟨by omega,⟨by omega,fun x hx=>by have:=h5 x hx;omega⟩,⟨by omega,fun x hx=>by have:=h6 x hx;omega⟩,by omega⟩
theorem sC.big {D:aD} (h:sC D):dY D:=⟨by have:=h.op;omega,⟨by have:=h.wa;omega,fun x hx=>by have:=h.ak x hx;omega⟩,⟨by have:=h.he;omega,fun x hx=>by have:=h.hx x hx;omega⟩,by have:=h.re;omega⟩
theorem F2 {G:aD→Prop} (P:aF) (D:aD) (MP:bQ) (SP:SlP) (a:kF) (k:Int) (w:World) (h:bG w P D) (hl:sC D) (hk:k=3∨k=4) (hdo:wiI a.doo 11=k) (hG0:G D) (hG1:G (cF D a.d)) :
 Calls prog 21 #[P.val D,J26 MP SP a] w (iP w P D G):=by
 have H:=ħ h;have HS:=ħ hl.big;have HBG:=ħ (hl.sealBig a.d);have HSM:=ħ (hl.seal a.d);have HRE:Hid (D.re.length+D.wa.length≤700000000):=ħ (by have:=hl.re;have:=hl.wa;omega);have HDO:=ħ hdo;clear h hl hdo;show Calls prog 21 #[.agg (cW D P),.agg (cJ a MP SP)] w _;go_enter func21,ntmps21
 refine mn (dZ D) fun z hz=>?_;have HZ:=ħ hz;clear hz;go_wp2_with fail
 have hX1:Blk (((w.alloc (.cells (cW D P) 27)).alloc (.cells (cJ a MP SP) 51)).alloc (.cells cZ 27)) w.heap.size 27 (cW D P):=(Blk.new w 27 (cW D P)).up (aJ)
 have hX2:Blk (((w.alloc (.cells (cW D P) 27)).alloc (.cells (cJ a MP SP) 51)).alloc (.cells cZ 27)) (w.heap.size+1) 51 (cJ a MP SP):=by
  have:=(Blk.new (w.alloc (.cells (cW D P) 27)) 51 (cJ a MP SP)).up (w':=(((w.alloc (.cells (cW D P) 27)).alloc (.cells (cJ a MP SP) 51)).alloc (.cells cZ 27))) (aJ);simpa using this
 have hX3:Blk (((w.alloc (.cells (cW D P) 27)).alloc (.cells (cJ a MP SP) 51)).alloc (.cells cZ 27)) (w.heap.size+2) 27 cZ:=by
  have:=Blk.new ((w.alloc (.cells (cW D P) 27)).alloc (.cells (cJ a MP SP) 51)) 27 cZ;simpa using this
 have hbX:Below w w (((w.alloc (.cells (cW D P) 27)).alloc (.cells (cJ a MP SP) 51)).alloc (.cells cZ 27)):=aJ;generalize (((w.alloc (.cells (cW D P) 27)).alloc (.cells (cJ a MP SP) 51)).alloc (.cells cZ 27))=X at *;have HX1:=ħ hX1;have HX2:=ħ hX2;have HX3:=ħ hX3;have HBX:=ħ hbX;clear hX1 hX2 hX3;refine (bK P D _ (H.out.up hbX) HS.out).mono ?_;rintro e w1 ⟨Pi,he1,hOi,hb1⟩;simp only [aF.val] at he1;subst he1;have hbI:Below w1 w1 (w1.alloc (.cells (cW D Pi) 27)):=aJ;have hY1:=(HX1.out.up hb1);have HOi:=ħ (hOi.up hbI);have HI:=ħ (Blk.new w1 27 (cW D Pi));have HY2:=ħ ((HX2.out.up hb1).up hbI);have HY3:=ħ ((HX3.out.up hb1).up hbI);have HY1:=ħ (hY1.up hbI);have hbY:=aA (aA hbX hb1) hbI;have ly1:=hY1.lt;obtain ⟨a_0,a_1,a_2,a_3,a_4,a_5,a_6,a_7,a_8⟩:=bx9 hY1.box;have hzX:w.heap.size+3≤w1.heap.size:=by have:=(HX3.out.up hb1).lt;omega
 clear hY1 HX1 HX2 HX3 hOi hb1 hbI hbX HBX;go_wp2_with fail
 clear a_0 a_1 a_2 a_3 a_4 a_5 a_6 a_7 a_8 ly1;have hgiE:w1.heap.size<(w1.alloc (.cells (cW D Pi) 27)).heap.size:=HI.out.lt;refine nm w1.heap.size fun gi hgi=>?_;refine nm ((w1.alloc (.cells (cW D Pi) 27))) fun X1 hX1=>?_;rw [←hX1,← hgi] at HI;rw [←hX1] at HOi HY1 HY2 HY3 hbY;rw [←hX1,← hgi];rw [←hX1,← hgi] at hgiE;rw [←hgi] at hzX;clear hX1 hgi;refine (eZ P D z _ (H.out.up hbY) HZ.out).mono ?_;rintro e w2 ⟨rfl,hb2⟩;have hA2:=HY2.out.up hb2;have b_0:=hA2.box.2 0 _ rfl;have lA2:=hA2.lt;have lA1:w.heap.size<w2.heap.size:=by omega
 clear hA2;rcases hk with rfl|rfl
 all_goals
  go_upto_region 25 with (go_at_call 40;refine (fQ a.doo 11 _ _ y5 y5 HDO.out).mono ?_;rintro e w' ⟨rfl,rfl⟩)
  clear b_0 lA2 lA1;have hbz:Below w2 w2 ((w2.alloc (.cells cY 70)).alloc (.cells cZ 27)):=aJ;have hs0:Blk ((w2.alloc (.cells cY 70)).alloc (.cells cZ 27)) w2.heap.size 70 cY:=(Blk.new w2 70 cY).up (aJ)
  have hx0:Blk ((w2.alloc (.cells cY 70)).alloc (.cells cZ 27)) (w2.heap.size+1) 27 cZ:=by
   have:=Blk.new (w2.alloc (.cells cY 70)) 27 cZ;simpa using this
  refine nm (w2.heap.size+1) fun gx hgx=>?_;rw [←hgx] at hx0 ⊢;refine nm w2.heap.size fun gs hgs=>?_;rw [←hgs] at hs0 ⊢;refine nm (((w2.alloc (.cells cY 70)).alloc (.cells cZ 27))) fun Y hY=>?_;rw [←hY] at hbz hs0 hx0 ⊢;have hgisz:=(HI.out.up hb2).lt;have hgis:gi<gs:=by omega
  have hgsx:gs<gx:=by omega
  have hgw:w.heap.size+2<gi:=by omega
  have HU1:=ħ ((HY1.out.up hb2).up hbz);have HU2:=ħ ((HY2.out.up hb2).up hbz);have HU3:=ħ ((HY3.out.up hb2).up hbz);have HUi:=ħ ((HI.out.up hb2).up hbz);have HUs:=ħ hs0;have HUx:=ħ hx0;have HOI:=ħ ((HOi.out.up hb2).up hbz);have hbU:=aA (aA hbY hb2) hbz;clear hY hgx hgs hs0 hx0 hbz hgisz hgiE hzX HY1 HY2 HY3 HI HOi hbY hb2;cases z
  · skip
    go_upto_region 27 with fail
    have hvi:=HUi.out;have li:=hvi.lt;obtain ⟨i_0,i_1,i_2,i_3,i_4,i_5,i_6,i_7,i_8⟩:=bx9 hvi.box;have hva:=HU2.out;have la:=hva.lt;have a_1:=hva.box.2 1 _ rfl;clear hvi hva;go_upto_region 53 with (go_at_call 47;refine (xW Pi D a.d _ (HOI.out.work HS.out) HZ.out).mono ?_;rintro e wa ⟨he,hba⟩;simp only [jF] at he;subst he;have hXa:=HUx.out.up hba;have fXa:=hXa.frozen;have lXa:=hXa.lt;obtain ⟨x_0,x_1,x_2,x_3,x_4,x_5,x_6,x_7,x_8⟩:=bx9 hXa.box;have HXa:=ħ hXa;clear hXa)
    have hli:=HUi.out.lt;rename_i K9 hK9;refine nm wa.heap.size fun gq hgq=>?_;refine nm (((kZ wa gx:World).alloc (.cells cY 70))) fun W hW=>?_;have hal:Below (kZ wa gx:World).heap.size (kZ wa gx) W:=by rw [hW];exact aB (Below.refl _ _)
    have hqB:Blk W gq 70 cY:=by
     rw [hW,hgq];have:=Blk.new (kZ wa gx) 70 cY;simpa [World.setCell] using this
    rw [←hW,← hgq];clear hW hgq;have hsx:=nZ (gF HXa.out rfl);have htk:aC 27 Y W:=(aC.of_below hba).trans ((nZ (aC.sets9 HXa.out)).trans (aC.of_below hal));have hblk:∀g t cs,Blk Y g t cs→g≠gx→Blk W g t cs:=fun g t cs h hne=>(nZ ((h.up hba).sets9 hne)).up hal;have hbWw:Below w w W:=(nZ (bU (aA hbU hba) y2)).trans (hal.mono y40);have hBW:Y.heap.size≤W.heap.size:=by have h2:=hba.size;have h3:=hal.size;simp [World.setCell] at h3;omega
    have l1:=HU1.out.lt;have l3:=HU3.out.lt;have hwB:=hbU.size
    exact dX w W Y.heap.size w.heap.size (w.heap.size+1+1) gi gq gx P Pi jG jG D cH 1 y47 none none 0 0 0 0 hK9 hbWw hwB hBW y2 l3 y2 y2 (by intro e;rw [e] at hqB;have h9:=hblk _ _ _ HU3.out y2;have h8:W.heap[w.heap.size+1+1]? =some (.cells cY 70 (0,0)):=hqB;have h7:W.heap[w.heap.size+1+1]? =some (.cells cZ 27 (0,0)):=h9;rw [h8] at h7;simp at h7)
     (fun Y' hY'=>⟨H.out.up (hbWw.trans (hY'.mono hwB)),(HOI.out.tk (cI htk hY') aU).work HS.out,(hblk _ _ _ HU1.out y2).below hY' l1,(hblk _ _ _ HUi.out y2).below hY' hli,(hblk _ _ _ HU3.out y2).below hY' l3⟩)
     (fun Y' hY'=>⟨lY _,hqB.up hY'⟩) (fun h=>absurd h y5)
     (fun h=>absurd h y5)
     (hsx.up hal) (jS _ _) gC y5 y5 y5 y5 (fun x hx=>by simp [cH] at hx) (fun x hx=>by simp [cH] at hx)
     (fun Y' hY'=>bO none 0 0 none 0 0 [] Y' (eJ.nil _) (eJ.nil _)) (fun Y' hY' hk=>(cG Y').mono fun e w' h=>⟨h.1,h.2.mono (Nat.le_trans hBW hY'.size)⟩)
  · have hn16:D.nodes≤16:=(gR (cX.1 HZ.out).1).2;refine mn (kD D a.d) fun se hse=>?_;have HSE:=ħ hse;clear hse;by_cases hs0:se=0
    · have HOK:=ħ (En (HSE.out.trans hs0));clear HSE hs0;go_upto_region 26 with fail
      have lx1:=HU1.out.lt;obtain ⟨w_0,w_1,w_2,w_3,w_4,w_5,w_6,w_7,w_8⟩:=bx9 HU1.out.box;have hva:=HU2.out;have la:=hva.lt;have a_1:=hva.box.2 1 _ rfl;clear hva;go_upto_region 27 with (go_at_call 46;refine (Ab P D a.d _ (H.out.up hbU) HS.out HZ.out HOK.out.1 HOK.out.2.1 HOK.out.2.2 HRE.out).mono ?_;rintro e w6 ⟨gq,P5,uA,un,uc,us,rfl,hQ6,hO6,hM6,hgq0,hb6⟩;have HQ6:Hid (Blk w6 gq 70 (cS (cF D a.d) P5 uA un uc)):=ħ hQ6;have HO5:Hid (iL w6 Y.heap.size P5 (cF D a.d)):=ħ hO6;have HM5:=ħ hM6;clear hQ6 hO6 hM6)
      clear w_0 w_1 w_2 w_3 w_4 w_5 w_6 w_7 w_8 lx1 la a_1;have HG1:=ħ (HU1.out.up hb6);have HG2:=ħ (HU2.out.up hb6);have HG3:=ħ (HU3.out.up hb6);have HGi:=ħ (HUi.out.up hb6);have HGx:=ħ (HUx.out.up hb6);have HGO:=ħ (HOI.out.up hb6);have hgxY:=HUx.out.lt;have hg3Y:=HU3.out.lt;have hsz6:=hb6.size;have hbB:=aA hbU hb6;have hvi:=HGi.out;have li:=hvi.lt;obtain ⟨i_0,i_1,i_2,i_3,i_4,i_5,i_6,i_7,i_8⟩:=bx9 hvi.box;have hva:=HG2.out;have la:=hva.lt;have a_1:=hva.box.2 1 _ rfl;clear HU1 HU2 HU3 HUi HUs HUx HOI hbU hvi hva;go_upto_region 53 with (go_at_call 47;refine (pT Pi D a.d _ (HGO.out.work HS.out) HS.out HZ.out HOK.out.1 HOK.out.2.1 HOK.out.2.2 HRE.out).mono ?_;rintro e wa ⟨P8,lA,ln,lc,he,hO8,⟨ls,hM8⟩,hba⟩;simp only [aF.val] at he;subst he;have hXa:=HGx.out.up hba;have fXa:=hXa.frozen;have lXa:=hXa.lt;obtain ⟨x_0,x_1,x_2,x_3,x_4,x_5,x_6,x_7,x_8⟩:=bx9 hXa.box;have HXa:=ħ hXa;have HO8:=ħ hO8;have HM8:=ħ hM8;clear hXa hO8 hM8)
      rename_i K9 hK9;clear li i_0 i_1 i_2 i_3 i_4 i_5 i_6 i_7 i_8 x_0 x_1 x_2 x_3 x_4 x_5 x_6 x_7 x_8 fXa lXa la a_1;have hsx:=nW (cF D a.d) P8 (gF HXa.out rfl);have hO8w:=HO8.out.tk (nW (cF D a.d) P8 (aC.sets9 HXa.out)) aU;have hM8w:aP cT (kW wa gx (cF D a.d) P8) w6.heap.size (.slice lA ln lc) ls (dF D.id a.d (nxD D) [] D.nodes.toNat):=nW (cF D a.d) P8 (HM8.out.lows y2);have hM5w:aP cT (kW wa gx (cF D a.d) P8) Y.heap.size (.slice uA un uc) us (dF D.id a.d (nxD D) [] D.nodes.toNat):=nW (cF D a.d) P8 ((HM5.out.up hba).lows y2);have htk:aC 27 w6 (kW wa gx (cF D a.d) P8):=(aC.of_below hba).trans (nW (cF D a.d) P8 (aC.sets9 HXa.out));have hblk:∀g t cs,Blk w6 g t cs→g≠gx→Blk (kW wa gx (cF D a.d) P8) g t cs:=fun g t cs h hne=>nW (cF D a.d) P8 ((h.up hba).sets9 hne);have hbWw:=nW (cF D a.d) P8 (bU (g:=gx) (aA hbB hba) y2);have hBW:w6.heap.size≤(kW wa gx (cF D a.d) P8:World).heap.size:=by have h2:=hba.size;simp [World.setCell];exact h2
      refine nm (kW wa gx (cF D a.d) P8:World) fun W hW=>?_;rw [←hW] at hsx hO8w hM8w hM5w htk hblk hbWw hBW ⊢;clear hW;have l1:=HG1.out.lt;have l3:=HG3.out.lt;have lq:=HQ6.out.lt;have hli:=HGi.out.lt;have hwB:=hbB.size;have hbg:=HBG.out;have hR8:=hO8w.work hbg;have hmsL:CL (dF D.id a.d (nxD D) [] D.nodes.toNat):=⟨by have:=mI D.id a.d (nxD D) [] D.nodes.toNat;omega,fun x hx=>AH (Nat.le_trans (Av D) y5) _ x hx⟩;obtain ⟨A1,c1,e1,hr1,_⟩:=dH.msgs ⟨ls,hM8w⟩ hmsL;obtain ⟨A2,c2,e2,hr2,_⟩:=dH.msgs ⟨us,hM5w⟩ hmsL;injection e1 with ea1 eb1 ec1;injection e2 with ea2 eb2 ec2;rw [←ea1,← eb1] at hr1;rw [←ea2,← eb2] at hr2;have hrm:zP W w6.heap.size ⟨lA,ln,lc⟩:=uB (s:=⟨lA,ln,lc⟩) hM8w (fun x hx=>AI (Nat.le_trans (Av D) y5) _ x hx);have hln:ln≤1000000:=by rw [eb1];have:=mI D.id a.d (nxD D) [] D.nodes.toNat;omega
      have HR1:=ħ hr1;have HR2:=ħ hr2;have HRM:=ħ hrm;clear ea1 eb1 ec1 ea2 eb2 ec2 hr1 hr2 hrm
      exact dX w W w6.heap.size w.heap.size (w.heap.size+1+1) gi gq gx P Pi P5 P8 D (cF D a.d) 0 y56 uA lA un uc ln lc hK9 hbWw hwB hBW y2 l3 y2 y2 y2
       (fun Y' hY'=>⟨H.out.up (hbWw.trans (hY'.mono hwB)),(HGO.out.tk (cI htk hY') aU).work HS.out,(hblk _ _ _ HG1.out y2).below hY' l1,(hblk _ _ _ HGi.out y2).below hY' hli,(hblk _ _ _ HG3.out y2).below hY' l3⟩)
       (fun Y' hY'=>⟨(HO5.out.tk (cI htk (hY'.mono hBW)) (Nat.le_trans hBW hY'.size) aU).work hbg,(hblk _ _ _ HQ6.out y2).up hY'⟩) (fun _ Y' hY'=>(hblk _ _ _ HQ6.out y2).below hY' lq)
       (fun _ Y' hY' Z hZ hz=>((HO5.out.tk (cI htk hY') (Nat.le_trans hBW hY'.size) aU).tk hZ hz aU).work hbg)
       hsx hO8w hbg y54 y43 y42 y66 HSM.out.2.2.2.2.1 HSM.out.2.2.2.2.2
       (fun Y' hY'=>bO lA ln lc uA un uc (dF D.id a.d (nxD D) [] D.nodes.toNat) Y' (HR1.out.up hY') (HR2.out.up hY'))
       (fun Y' hY' hk=>(iU ⟨lA,ln,lc⟩ w6.heap.size Y' (HRM.out.keep hk (by unfold wO;decide)) hln (Nat.le_trans hBW hY'.size)).mono fun e w' h=>⟨h.1,h.2.1⟩)
    · have HSE0:=ħ hs0;have HSEN:Hid (kD D a.d≠0):=ħ (by rw [HSE.out];exact hs0);clear hs0;go_upto_region 26 with fail
      have lx1:=HU1.out.lt;obtain ⟨w_0,w_1,w_2,w_3,w_4,w_5,w_6,w_7,w_8⟩:=bx9 HU1.out.box;have hva:=HU2.out;have la:=hva.lt;have a_1:=hva.box.2 1 _ rfl;clear hva;go_upto_region 27 with (go_at_call 46;refine (Aa P D a.d _ (H.out.up hbU) HS.out HZ.out HSEN.out).mono ?_;rintro e w6 ⟨gq,he6,hb6⟩;rw [HSE.out] at he6;subst he6)
      clear w_0 w_1 w_2 w_3 w_4 w_5 w_6 w_7 w_8 lx1 la a_1;replace HU1:=ħ (HU1.out.up hb6);replace HU2:=ħ (HU2.out.up hb6);replace HU3:=ħ (HU3.out.up hb6);replace HUi:=ħ (HUi.out.up hb6);have hgxY:=HUx.out.lt;have hsz6:=hb6.size;replace HUx:=ħ (HUx.out.up hb6);replace HOI:=ħ (HOI.out.up hb6);replace hbU:=aA hbU hb6;clear HUs hb6;have hvi:=HUi.out;have li:=hvi.lt;obtain ⟨i_0,i_1,i_2,i_3,i_4,i_5,i_6,i_7,i_8⟩:=bx9 hvi.box;have hva:=HU2.out;have la:=hva.lt;have a_1:=hva.box.2 1 _ rfl;clear hvi hva;have hse9:(se != 0)=true:=by simpa using HSE0.out
      go_upto_region 53 with (go_at_call 47;refine (yR Pi D a.d _ (HOI.out.work HS.out) HS.out HZ.out HSEN.out).mono ?_;rintro e wa ⟨he,hba⟩;rw [HSE.out] at he;simp only [jF] at he;subst he;have hXa:=HUx.out.up hba;have fXa:=hXa.frozen;have lXa:=hXa.lt;obtain ⟨x_0,x_1,x_2,x_3,x_4,x_5,x_6,x_7,x_8⟩:=bx9 hXa.box;have HXa:=ħ hXa;clear hXa)
      have hli:=HUi.out.lt;rename_i K9 hK9;refine nm wa.heap.size fun gq hgq=>?_;refine nm (((kZ wa gx:World).alloc (.cells cY 70))) fun W hW=>?_;have hal:Below (kZ wa gx:World).heap.size (kZ wa gx) W:=by rw [hW];exact aB (Below.refl _ _)
      have hqB:Blk W gq 70 cY:=by
       rw [hW,hgq];have:=Blk.new (kZ wa gx) 70 cY;simpa [World.setCell] using this
      rw [←hW,← hgq];clear hW hgq;have hsx:=nZ (gF HXa.out rfl);have htk:aC 27 w6 W:=(aC.of_below hba).trans ((nZ (aC.sets9 HXa.out)).trans (aC.of_below hal));have hblk:∀g t cs,Blk w6 g t cs→g≠gx→Blk W g t cs:=fun g t cs h hne=>(nZ ((h.up hba).sets9 hne)).up hal;have hbWw:Below w w W:=(nZ (bU (aA hbU hba) y2)).trans (hal.mono y40);have hBW:w6.heap.size≤W.heap.size:=by have h2:=hba.size;have h3:=hal.size;simp [World.setCell] at h3;omega
      have l1:=HU1.out.lt;have l3:=HU3.out.lt;have hwB:=hbU.size
      exact dX w W w6.heap.size w.heap.size (w.heap.size+1+1) gi gq gx P Pi jG jG D cH se (by rw [if_neg (by exact HSE0.out)];exact hG0) none none 0 0 0 0 hK9 hbWw hwB hBW y2 l3 y2 y2 (by intro e;rw [e] at hqB;have h9:=hblk _ _ _ HU3.out y2;have h8:W.heap[w.heap.size+1+1]? =some (.cells cY 70 (0,0)):=hqB;have h7:W.heap[w.heap.size+1+1]? =some (.cells cZ 27 (0,0)):=h9;rw [h8] at h7;simp at h7)
       (fun Y' hY'=>⟨H.out.up (hbWw.trans (hY'.mono hwB)),(HOI.out.tk (cI htk hY') aU).work HS.out,(hblk _ _ _ HU1.out y2).below hY' l1,(hblk _ _ _ HUi.out y2).below hY' hli,(hblk _ _ _ HU3.out y2).below hY' l3⟩)
       (fun Y' hY'=>⟨lY _,hqB.up hY'⟩) (fun h=>absurd h HSE0.out)
       (fun h=>absurd h HSE0.out)
       (hsx.up hal) (jS _ _) gC y5 y5 y5 y5 (fun x hx=>by simp [cH] at hx) (fun x hx=>by simp [cH] at hx)
       (fun Y' hY'=>bO none 0 0 none 0 0 [] Y' (eJ.nil _) (eJ.nil _)) (fun Y' hY' hk=>(cG Y').mono fun e w' h=>⟨h.1,h.2.mono (Nat.le_trans hBW hY'.size)⟩)
end Go.Proofs.YtgfakefcmbpboaaGreat
