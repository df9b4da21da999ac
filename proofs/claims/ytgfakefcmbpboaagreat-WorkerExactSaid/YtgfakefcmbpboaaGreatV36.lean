/- Part 36 of what WorkerExact leans on. No conditions. -/
import Derived.Test.YtgfakefcmbpboaaGreatV22
namespace Go.Proofs.YtgfakefcmbpboaaGreat
set_option linter.all false
set_option maxRecDepth 100000
set_option maxHeartbeats 64000000
open _root_.Go.Proofs.Tryz Go.RowKit
open Tok
theorem iE {v0 v1 v2 v3 v4 v5 v6 v7 v8 v9 v10 v11 v12 v13 v14 v15 v16 v17:Value} (h:∀u∈[v0,v1,v2,v3,v4,v5,v6,v7,v8,v9,v10,v11,v12,v13,v14,v15,v16,v17],u.oneCell'=true:=by intro u hu;simp only [List.mem_cons,List.not_mem_nil,or_false] at hu;rcases hu with rfl|rfl|rfl|rfl|rfl|rfl|rfl|rfl|rfl|rfl|rfl|rfl|rfl|rfl|rfl|rfl|rfl|rfl<;>rfl):∀u∈[v0,v1,v2,v3,v4,v5,v6,v7,v8,v9,v10,v11,v12,v13,v14,v15,v16,v17],u.oneCell'=true:=h
theorem C3 (H:eG) (bA pA:Option Addr) (bn bc pn pc:Nat) (n:Int) (y:Bool) (w:World) (hR:dE w ⟨⟨bA,bn,bc⟩,⟨pA,pn,pc⟩⟩ H) (hy:iS H n=y) :
 Calls prog 150 #[.agg #[H.au,H.ro,.slice bA bn bc,.slice pA pn pc],n] w fun e w'=>e=.returned (.bool y)∧Below w w w':=by
 rw [←hy];exact AO ⟨⟨bA,bn,bc⟩,⟨pA,pn,pc⟩⟩ H n w hR
theorem zS (C:mG) (bA pA sA:Option Addr) (bn bc pn pc sn sc:Nat) (n:Int) (y:Bool) (w:World) (hR:iB w ⟨⟨⟨bA,bn,bc⟩,⟨pA,pn,pc⟩⟩,⟨sA,sn,sc⟩⟩ C) (hy:mV C n=y) :
 Calls prog 151 #[.agg #[C.h.au,C.h.ro,.slice bA bn bc,.slice pA pn pc,C.di,.slice sA sn sc],n] w fun e w'=>e=.returned (.bool y)∧Below w w w':=by
 rw [←hy];exact AP ⟨⟨⟨bA,bn,bc⟩,⟨pA,pn,pc⟩⟩,⟨sA,sn,sc⟩⟩ C n w hR
theorem Cj (P Q:bQ) (M O:aY) (n:Int) (y:Bool) (w:World) (h:eO w P M) (hQ:jX P M=Q) (hO:eB M=O) (hy:dec (okM M n)=y) :
 Calls prog 130 #[M18 P M,n] w fun e w'=>e=.returned (.tuple #[M18 Q O,.bool y])∧Below w w w':=by
 obtain ⟨⟨bA,bn,bc⟩,⟨⟨xA,xn,xc⟩,⟨yA,yn,yc⟩⟩,⟨⟨⟨cA,cn,cd⟩,⟨dA,dn,dc⟩⟩,⟨sA,sn,sc⟩⟩,⟨eA,en,ec⟩⟩:=P;obtain ⟨ki,fr,tt,di,b,hd,cc,ds⟩:=M;have HR:=ħ h;have HY:=ħ hy;have HQ:=ħ hQ;have HO:=ħ hO;clear h hy hQ hO;show Calls prog 130 #[.agg (cN ki fr tt di b hd cc bA bn bc xA xn xc yA yn yc cA cn cd dA dn dc sA sn sc eA en ec),n] w _;go_enter func130,ntmps130
 go_upto_region 2 with fail
 refine aW (fun W hW=>?_);have HBM:Hid (Blk W w.heap.size 49 (cN ki fr tt di b hd cc bA bn bc xA xn xc yA yn yc cA cn cd dA dn dc sA sn sc eA en ec)):=ħ (by rw [hW];exact (Blk.new w 49 (cN ki fr tt di b hd cc bA bn bc xA xn xc yA yn yc cA cn cd dA dn dc sA sn sc eA en ec)).up (aB (Below.refl _ _)));have HBX:Hid (Blk W (w.heap.size+1) 49 [ki,fr,tt,z0,z0,z0,n0,z0,z0,n0,n0,z0,z0,n0,n0,z0,n0,n0]):=ħ (by rw [hW];exact Blk.new1 w 49 49 (cN ki fr tt di b hd cc bA bn bc xA xn xc yA yn yc cA cn cd dA dn dc sA sn sc eA en ec) [ki,fr,tt,z0,z0,z0,n0,z0,z0,n0,n0,z0,z0,n0,n0,z0,n0,n0]);have hb0:Below w w W:=by rw [hW];exact aB (aB (Below.refl _ _))
 clear hW;have hsz:w.heap.size+1<W.heap.size:=HBX.out.lt;have m0:=HBM.out.box.2 0 _ rfl;have hks:(ki=1∨ki=3)∨(ki=2∨ki=5)∨ki=4∨ki=6∨(ki=7∨ki=8)∨(ki≠1∧ki≠2∧ki≠3∧ki≠4∧ki≠5∧ki≠6∧ki≠7∧ki≠8):=by omega
 rcases hks with hk|hk|rfl|rfl|hk|hk
 · rcases hk with rfl|rfl
   all_goals
    have hQ':=HQ.out;have hO':=HO.out;simp [jX,eB,sl0] at hQ' hO';subst hQ' hO';clear HQ HO;refine mn (fX di) fun yd hyd=>?_;refine mn (bmT b) fun yb hyb=>?_;have HDI:=ħ hyd;have HBI:=ħ hyb;have hyy:y=(yd&&yb&&decide (b.au≤n)):=by rw [←HY.out,← hyd,← hyb,Bool.eq_iff_iff,bJ];simp [okM,and_assoc]
    clear hyd hyb HY;go_upto_region 5 with fail
    clear m0;obtain ⟨S,hSd⟩:∃S:World→Prop,S=fun Q=>Q.cell? ⟨w,3,none⟩=some (.int .i64 di)∧Q.rangeAt w.heap.size 4 [b.au,b.n,.slice bA bn bc]:=⟨_,rfl⟩;have hS1:∀Q,S Q→Q.cell? ⟨w,3,none⟩=some (.int .i64 di):=fun Q h=>by rw [hSd] at h;exact h.1
    have hS2:∀Q,S Q→Q.rangeAt w.heap.size 4 [b.au,b.n,.slice bA bn bc]:=fun Q h=>by rw [hSd] at h;exact h.2
    have hS4:∀Q o u,S Q→S (Q.setCell ⟨w.heap.size+1,o,none⟩ u):=fun Q o u h=>by rw [hSd] at h ⊢;exact ⟨(World.cell?_setCell_other _ _ _ _ y15).trans h.1,fun j v hv=>(World.cell?_setCell_other _ _ _ _ y15).trans (h.2 j v hv)⟩
    have hZ0:S W.drew:=by rw [hSd];exact ⟨HBM.out.box.2 3 _ rfl,fun j v hv=>HBM.out.box.2 (4+j) v (by match j,hv with|0,hv=>exact hv|1,hv=>exact hv|2,hv=>exact hv)⟩
    clear hSd;refine wp_region_held_drew (S:=S) y8 hZ0 (fun hHeld=>?_);have hbz:Below w w W.drew:=aM hb0;have HZX:=ħ (HBX.out.up (aM (Below.refl _ _)));have HZM:=ħ (HBM.out.up (aM (Below.refl _ _)));generalize W.drew=Z at *;clear hsz hb0 HBM HBX;refine tk 0 18 ?_;refine tq 1 19 hS1 ?_;refine tk 2 20 ?_;refine ld 3 21 hS2 underlying43 ?_;refine tk 4 22 ?_;refine ry 5 fun K hK=>?_;have qf:=HZX.out.frozen 3;have q3:=HZX.out.box.2 3 _ rfl;have ql:=HZX.out.lt;go_simp;clear qf q3 ql;have HX0:=ħ (HZX.out.set_ 3 (.int .i64 di));have HM0:=ħ ((HZM.out).far (p:=⟨w.heap.size+1,3,none⟩) y11 (.int .i64 di));have hb0:=(hbz).setCell (p:=⟨w.heap.size+1,3,none⟩) y12 (.int .i64 di);have hs0:=hS4 _ 3 (.int .i64 di) hHeld;refine hkq hK hs0 fun hHeld=>?_;clear hK K;refine tk 6 23 ?_;refine ry 7 fun K hK=>?_;have ql:=HX0.out.lt;have qf4:=HX0.out.frozen 4;have q4:=HX0.out.box.2 4 _ rfl;have qf5:=HX0.out.frozen 5;have q5:=HX0.out.box.2 5 _ rfl;have qf6:=HX0.out.frozen 6;have q6:=HX0.out.box.2 6 _ rfl;go_simp;clear ql qf4 q4 qf5 q5 qf6 q6;have HVX:=ħ ((((HX0.out).set_ 4 (.int .i64 b.au)).set_ 5 (.int .i64 b.n)).set_ 6 (.slice bA bn bc));have HVM:=ħ ((((HM0.out).far (p:=⟨w.heap.size+1,4,none⟩) y11 (.int .i64 b.au)).far (p:=⟨w.heap.size+1,5,none⟩) y11 (.int .i64 b.n)).far (p:=⟨w.heap.size+1,6,none⟩) y11 (.slice bA bn bc));have hb2:=(((hb0).setCell (p:=⟨w.heap.size+1,4,none⟩) y12 (.int .i64 b.au)).setCell (p:=⟨w.heap.size+1,5,none⟩) y12 (.int .i64 b.n)).setCell (p:=⟨w.heap.size+1,6,none⟩) y12 (.slice bA bn bc);have hs1:=hS4 _ 6 (.slice bA bn bc) (hS4 _ 5 (.int .i64 b.n) (hS4 _ 4 (.int .i64 b.au) (hs0)));refine hkq hK hs1 fun hHeld=>?_;clear hK K;refine wz ?_;refine aW (fun V hV=>?_);rw [←hV] at HVX HVM hb2;clear hHeld hV HZX HZM hbz hZ0 hs1 HX0 HM0 hb0 hs0;have m3:=HVM.out.box.2 3 _ rfl;have m4:=HVM.out.box.2 4 _ rfl;have m5:=HVM.out.box.2 5 _ rfl;have m6:=HVM.out.box.2 6 _ rfl;cases yd
    · obtain rfl:=hyy;go_upto_region 21 with (go_at_call 110;(with_reducible refine (bR di _ _ HDI.out).mono ?_);rintro e w' ⟨rfl,rfl⟩)
      rename_i K hK;exact gB (w.heap.size+1) _ _ _ _ _ _ _ _ _ _ _ _ _ _ _ _ _ _ false w _ iE hK y2 (hb2) (HVX.out)
    · cases yb
      all_goals
       obtain rfl:=hyy;go_upto_region 21 with (first|(go_at_call 110;(with_reducible refine (bR di _ _ HDI.out).mono ?_);rintro e w' ⟨rfl,rfl⟩)|(go_at_call 112;(with_reducible refine (lZ b bA bn bc _ _ (HR.out.tx.up hb2) HBI.out).mono ?_);rintro e w7 ⟨rfl,hb7⟩;have m4:=(hb7.cell (p:=⟨w,4,none⟩) (HVM.out.lt)).trans m4))
       rename_i K hK;exact gB (w.heap.size+1) _ _ _ _ _ _ _ _ _ _ _ _ _ _ _ _ _ _ _ w _ iE hK y2 (aA hb2 hb7) (HVX.out.up hb7)
 · rcases hk with rfl|rfl
   all_goals
    have hQ':=HQ.out;have hO':=HO.out;simp [jX,eB,sl0] at hQ' hO';subst hQ' hO';clear HQ HO;have HDI:Hid (fX di=y):=ħ y68;clear HY;have m3:=HBM.out.box.2 3 _ rfl;have x3:=HBX.out.box.2 3 _ rfl;have f3:=HBX.out.frozen 3;go_upto_region 10 with fail
    have HVX:=ħ ((HBX.out).set_ 3 (.int .i64 di));have HVM:=ħ ((HBM.out).far (p:=⟨w.heap.size+1,3,none⟩) y11 (.int .i64 di));have hb2:=(hb0).setCell (p:=⟨w.heap.size+1,3,none⟩) y12 (.int .i64 di);refine aW (fun V hV=>?_);rw [←hV] at HVX HVM hb2;clear hV m0 HBM HBX hb0 hsz m3 x3 f3;have m3:=HVM.out.box.2 3 _ rfl;go_upto_region 21 with (go_at_call 110;(with_reducible refine (bR di _ _ HDI.out).mono ?_);rintro e w' ⟨rfl,rfl⟩)
    rename_i K hK;exact gB (w.heap.size+1) _ _ _ _ _ _ _ _ _ _ _ _ _ _ _ _ _ _ y w _ iE hK y2 (hb2) (HVX.out)
 · skip
   have hQ':=HQ.out;have hO':=HO.out;simp [jX,eB,sl0] at hQ' hO';subst hQ' hO';clear HQ HO;refine mn (fX di) fun yd hyd=>?_;refine mn (iS hd n) fun yb hyb=>?_;have HDI:=ħ hyd;have HBI:=ħ hyb;have hyy:y=(yd&&yb&&(hd.au == fr)):=by rw [←HY.out,← hyd,← hyb,Bool.eq_iff_iff,bJ];simp [okM,and_assoc]
   clear hyd hyb HY;go_upto_region 12 with fail
   clear m0;obtain ⟨S,hSd⟩:∃S:World→Prop,S=fun Q=>Q.cell? ⟨w,3,none⟩=some (.int .i64 di)∧Q.rangeAt w.heap.size 7 [hd.au,hd.ro,.slice xA xn xc,.slice yA yn yc]:=⟨_,rfl⟩;have hS1:∀Q,S Q→Q.cell? ⟨w,3,none⟩=some (.int .i64 di):=fun Q h=>by rw [hSd] at h;exact h.1
   have hS2:∀Q,S Q→Q.rangeAt w.heap.size 7 [hd.au,hd.ro,.slice xA xn xc,.slice yA yn yc]:=fun Q h=>by rw [hSd] at h;exact h.2
   have hS4:∀Q o u,S Q→S (Q.setCell ⟨w.heap.size+1,o,none⟩ u):=fun Q o u h=>by rw [hSd] at h ⊢;exact ⟨(World.cell?_setCell_other _ _ _ _ y15).trans h.1,fun j v hv=>(World.cell?_setCell_other _ _ _ _ y15).trans (h.2 j v hv)⟩
   have hZ0:S W.drew:=by rw [hSd];exact ⟨HBM.out.box.2 3 _ rfl,fun j v hv=>HBM.out.box.2 (7+j) v (by match j,hv with|0,hv=>exact hv|1,hv=>exact hv|2,hv=>exact hv|3,hv=>exact hv)⟩
   clear hSd;refine wp_region_held_drew (S:=S) y8 hZ0 (fun hHeld=>?_);have hbz:Below w w W.drew:=aM hb0;have HZX:=ħ (HBX.out.up (aM (Below.refl _ _)));have HZM:=ħ (HBM.out.up (aM (Below.refl _ _)));generalize W.drew=Z at *;clear hsz hb0 HBM HBX;refine tk 0 50 ?_;refine tq 1 51 hS1 ?_;refine tk 2 52 ?_;refine ld 3 53 hS2 underlying45 ?_;refine tk 4 54 ?_;refine ry 5 fun K hK=>?_;have qf:=HZX.out.frozen 3;have q3:=HZX.out.box.2 3 _ rfl;have ql:=HZX.out.lt;go_simp;clear qf q3 ql;have HX0:=ħ (HZX.out.set_ 3 (.int .i64 di));have HM0:=ħ ((HZM.out).far (p:=⟨w.heap.size+1,3,none⟩) y11 (.int .i64 di));have hb0:=(hbz).setCell (p:=⟨w.heap.size+1,3,none⟩) y12 (.int .i64 di);have hs0:=hS4 _ 3 (.int .i64 di) hHeld;refine hkq hK hs0 fun hHeld=>?_;clear hK K;refine tk 6 55 ?_;refine ry 7 fun K hK=>?_;have ql:=HX0.out.lt;have qf7:=HX0.out.frozen 7;have q7:=HX0.out.box.2 7 _ rfl;have qf8:=HX0.out.frozen 8;have q8:=HX0.out.box.2 8 _ rfl;have qf9:=HX0.out.frozen 9;have q9:=HX0.out.box.2 9 _ rfl;have qf10:=HX0.out.frozen 10;have q10:=HX0.out.box.2 10 _ rfl;go_simp;clear ql qf7 q7 qf8 q8 qf9 q9 qf10 q10;have HVX:=ħ (((((HX0.out).set_ 7 (.int .i64 hd.au)).set_ 8 (.int .i64 hd.ro)).set_ 9 (.slice xA xn xc)).set_ 10 (.slice yA yn yc));have HVM:=ħ (((((HM0.out).far (p:=⟨w.heap.size+1,7,none⟩) y11 (.int .i64 hd.au)).far (p:=⟨w.heap.size+1,8,none⟩) y11 (.int .i64 hd.ro)).far (p:=⟨w.heap.size+1,9,none⟩) y11 (.slice xA xn xc)).far (p:=⟨w.heap.size+1,10,none⟩) y11 (.slice yA yn yc));have hb2:=((((hb0).setCell (p:=⟨w.heap.size+1,7,none⟩) y12 (.int .i64 hd.au)).setCell (p:=⟨w.heap.size+1,8,none⟩) y12 (.int .i64 hd.ro)).setCell (p:=⟨w.heap.size+1,9,none⟩) y12 (.slice xA xn xc)).setCell (p:=⟨w.heap.size+1,10,none⟩) y12 (.slice yA yn yc);have hs1:=hS4 _ 10 (.slice yA yn yc) (hS4 _ 9 (.slice xA xn xc) (hS4 _ 8 (.int .i64 hd.ro) (hS4 _ 7 (.int .i64 hd.au) (hs0))));refine hkq hK hs1 fun hHeld=>?_;clear hK K;refine wz ?_;refine aW (fun V hV=>?_);rw [←hV] at HVX HVM hb2;clear hHeld hV HZX HZM hbz hZ0 hs1 HX0 HM0 hb0 hs0;have m1:=HVM.out.box.2 1 _ rfl;have m3:=HVM.out.box.2 3 _ rfl;have m7:=HVM.out.box.2 7 _ rfl;have m8:=HVM.out.box.2 8 _ rfl;have m9:=HVM.out.box.2 9 _ rfl;have m10:=HVM.out.box.2 10 _ rfl;cases yd
   · obtain rfl:=hyy;go_upto_region 21 with (go_at_call 110;(with_reducible refine (bR di _ _ HDI.out).mono ?_);rintro e w' ⟨rfl,rfl⟩)
     rename_i K hK;exact gB (w.heap.size+1) _ _ _ _ _ _ _ _ _ _ _ _ _ _ _ _ _ _ false w _ iE hK y2 (hb2) (HVX.out)
   · cases yb
     all_goals
      obtain rfl:=hyy;go_upto_region 21 with (first|(go_at_call 110;(with_reducible refine (bR di _ _ HDI.out).mono ?_);rintro e w' ⟨rfl,rfl⟩)|(go_at_call 150;(with_reducible refine (C3 hd xA yA xn xc yn yc n _ _ (HR.out.h.up hb2) HBI.out).mono ?_);rintro e w7 ⟨rfl,hb7⟩;have m7:=(hb7.cell (p:=⟨w,7,none⟩) (HVM.out.lt)).trans m7;have m1:=(hb7.cell (p:=⟨w,1,none⟩) (HVM.out.lt)).trans m1))
      rename_i K hK;exact gB (w.heap.size+1) _ _ _ _ _ _ _ _ _ _ _ _ _ _ _ _ _ _ _ w _ iE hK y2 (aA hb2 hb7) (HVX.out.up hb7)
 · skip
   have hQ':=HQ.out;have hO':=HO.out;simp [jX,eB,sl0] at hQ' hO';subst hQ' hO';clear HQ HO;have HDI:Hid (mV cc n=y):=ħ y68;clear HY;have m11:=HBM.out.box.2 11 _ rfl;have x11:=HBX.out.box.2 11 _ rfl;have f11:=HBX.out.frozen 11;have m12:=HBM.out.box.2 12 _ rfl;have x12:=HBX.out.box.2 12 _ rfl;have f12:=HBX.out.frozen 12;have m13:=HBM.out.box.2 13 _ rfl;have x13:=HBX.out.box.2 13 _ rfl;have f13:=HBX.out.frozen 13;have m14:=HBM.out.box.2 14 _ rfl;have x14:=HBX.out.box.2 14 _ rfl;have f14:=HBX.out.frozen 14;have m15:=HBM.out.box.2 15 _ rfl;have x15:=HBX.out.box.2 15 _ rfl;have f15:=HBX.out.frozen 15;have m16:=HBM.out.box.2 16 _ rfl;have x16:=HBX.out.box.2 16 _ rfl;have f16:=HBX.out.frozen 16;go_upto_region 16 with fail
   have HVX:=ħ (((((((HBX.out).set_ 11 (.int .i64 cc.h.au)).set_ 12 (.int .i64 cc.h.ro)).set_ 13 (.slice cA cn cd)).set_ 14 (.slice dA dn dc)).set_ 15 (.int .i64 cc.di)).set_ 16 (.slice sA sn sc));have HVM:=ħ (((((((HBM.out).far (p:=⟨w.heap.size+1,11,none⟩) y11 (.int .i64 cc.h.au)).far (p:=⟨w.heap.size+1,12,none⟩) y11 (.int .i64 cc.h.ro)).far (p:=⟨w.heap.size+1,13,none⟩) y11 (.slice cA cn cd)).far (p:=⟨w.heap.size+1,14,none⟩) y11 (.slice dA dn dc)).far (p:=⟨w.heap.size+1,15,none⟩) y11 (.int .i64 cc.di)).far (p:=⟨w.heap.size+1,16,none⟩) y11 (.slice sA sn sc));have hb2:=((((((hb0).setCell (p:=⟨w.heap.size+1,11,none⟩) y12 (.int .i64 cc.h.au)).setCell (p:=⟨w.heap.size+1,12,none⟩) y12 (.int .i64 cc.h.ro)).setCell (p:=⟨w.heap.size+1,13,none⟩) y12 (.slice cA cn cd)).setCell (p:=⟨w.heap.size+1,14,none⟩) y12 (.slice dA dn dc)).setCell (p:=⟨w.heap.size+1,15,none⟩) y12 (.int .i64 cc.di)).setCell (p:=⟨w.heap.size+1,16,none⟩) y12 (.slice sA sn sc);refine aW (fun V hV=>?_);rw [←hV] at HVX HVM hb2;clear hV m0 HBM HBX hb0 hsz m11 x11 f11 m12 x12 f12 m13 x13 f13 m14 x14 f14 m15 x15 f15 m16 x16 f16;have m11:=HVM.out.box.2 11 _ rfl;have m12:=HVM.out.box.2 12 _ rfl;have m13:=HVM.out.box.2 13 _ rfl;have m14:=HVM.out.box.2 14 _ rfl;have m15:=HVM.out.box.2 15 _ rfl;have m16:=HVM.out.box.2 16 _ rfl;go_upto_region 21 with (go_at_call 151;(with_reducible refine (zS cc cA dA sA cn cd dn dc sn sc n _ _ (HR.out.c.up hb2) HDI.out).mono ?_);rintro e w7 ⟨rfl,hb7⟩)
   rename_i K hK;exact gB (w.heap.size+1) _ _ _ _ _ _ _ _ _ _ _ _ _ _ _ _ _ _ y w _ iE hK y2 (aA hb2 hb7) (HVX.out.up hb7)
 · rcases hk with rfl|rfl
   all_goals
    have hQ':=HQ.out;have hO':=HO.out;simp [jX,eB,sl0] at hQ' hO';subst hQ' hO';clear HQ HO;have hln:ds.length=en:=HR.out.ds.1;refine mn (fP ds 1 65536) fun yd hyd=>?_;have HDI:=ħ hyd;have hyy:y=(decide (1≤en)&&decide (en≤16)&&yd):=by rw [←HY.out,← hyd,Bool.eq_iff_iff,bJ];simp [okM,and_assoc,hln]
    clear hyd HY;have m17:=HBM.out.box.2 17 _ rfl;have x17:=HBX.out.box.2 17 _ rfl;have f17:=HBX.out.frozen 17;go_upto_region 20 with fail
    have HVX:=ħ ((HBX.out).set_ 17 (.slice eA en ec));have HVM:=ħ ((HBM.out).far (p:=⟨w.heap.size+1,17,none⟩) y11 (.slice eA en ec));have hb2:=(hb0).setCell (p:=⟨w.heap.size+1,17,none⟩) y12 (.slice eA en ec);refine aW (fun V hV=>?_);rw [←hV] at HVX HVM hb2;clear hV m0 HBM HBX hb0 hsz m17 x17 f17;have m17:=HVM.out.box.2 17 _ rfl;by_cases h1:1≤en
    · by_cases h2:en≤16
      · obtain rfl:y=yd:=by rw [hyy];simp [h1,h2]
        have d1:decide ((1:Int)≤(en:Int))=true:=by simp;omega
        have d2:decide ((en:Int)≤16)=true:=by simp;omega
        clear hyy;go_upto_region 21 with (go_at_call 152;(with_reducible refine (BA eA en ec ds _ _ (HR.out.ds.up hb2) HDI.out).mono ?_);rintro e w' ⟨rfl,rfl⟩)
        rename_i K hK;exact gB (w.heap.size+1) _ _ _ _ _ _ _ _ _ _ _ _ _ _ _ _ _ _ _ w _ iE hK y2 (hb2) (HVX.out)
      · obtain rfl:y=false:=by rw [hyy];simp [h2]
        have d1:decide ((1:Int)≤(en:Int))=true:=by simp;omega
        have d2:decide ((en:Int)≤16)=false:=by simp;omega
        clear hyy;go_upto_region 21 with fail
        rename_i K hK;exact gB (w.heap.size+1) _ _ _ _ _ _ _ _ _ _ _ _ _ _ _ _ _ _ false w _ iE hK y2 (hb2) (HVX.out)
    · obtain rfl:y=false:=by rw [hyy];simp [h1]
      have d1:decide ((1:Int)≤(en:Int))=false:=by simp;omega
      clear hyy;go_upto_region 21 with fail
      rename_i K hK;exact gB (w.heap.size+1) _ _ _ _ _ _ _ _ _ _ _ _ _ _ _ _ _ _ false w _ iE hK y2 (hb2) (HVX.out)
 · obtain ⟨h1,h2,h3,h4,h5,h6,h7,h8⟩:=hk;have e1:(ki == 1)=false:=by simpa using h1
   have e2:(ki == 2)=false:=by simpa using h2
   have e3:(ki == 3)=false:=by simpa using h3
   have e4:(ki == 4)=false:=by simpa using h4
   have e5:(ki == 5)=false:=by simpa using h5
   have e6:(ki == 6)=false:=by simpa using h6
   have e7:(ki == 7)=false:=by simpa using h7
   have e8:(ki == 8)=false:=by simpa using h8
   have hQ':=HQ.out;have hO':=HO.out;simp [jX,eB,sl0,h1,h2,h3,h4,h5,h6,h7,h8] at hQ' hO';subst hQ' hO';clear HQ HO;obtain rfl:y=false:=by rw [←HY.out];exact (dV (by simp [okM,h1,h2,h3,h4,h5,h6,h7,h8])).symm
   clear HY;go_upto_region 21 with fail
   rename_i K hK;exact gB (w.heap.size+1) _ _ _ _ _ _ _ _ _ _ _ _ _ _ _ _ _ _ false w _ iE hK y2 (hb0) (HBX.out)
end Go.Proofs.YtgfakefcmbpboaaGreat
