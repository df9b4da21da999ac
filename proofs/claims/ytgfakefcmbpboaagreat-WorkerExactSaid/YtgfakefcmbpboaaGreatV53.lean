/- WorkerExact: whatever argument is given, the law returns true and changes nothing. No conditions. -/
import Derived.Test.YtgfakefcmbpboaaGreatV52
namespace Go.Proofs.YtgfakefcmbpboaaGreat
set_option linter.all false
set_option maxRecDepth 100000
set_option maxHeartbeats 64000000
open _root_.Go.Proofs.Tryz Go.RowKit
open Tok
theorem CF (P:aF) (D:aD) (y:Bool) (w:World) (h:bG w P D) (hy:dZ D=y) :
 Calls prog 20 #[P.val D] w fun e w'=>e=.returned (.int .i64 (if y=true then 0 else 1))∧Below w w w':=by
 have H:=ħ h;have HY:=ħ hy;clear h hy;show Calls prog 20 #[.agg (cW D P)] w _;go_enter func20,ntmps20
 cases y
 all_goals
  go_wp2_with (go_at_call 39;refine (dK P D _ _ (H.out.up (aJ)) HY.out).mono ?_;rintro e w1 ⟨rfl,hb1⟩)
  go_ret
  exact ⟨rfl,aI⟩
theorem zV (P:uN) (D:wN) (w:World) (h:AD w P D) :
 Calls prog 13 #[P.val D] w fun e w'=>e=.returned (.bool true)∧Below w w w':=by
 obtain ⟨Pw,⟨lA,ln,lc⟩⟩:=P;have H:=ħ h;have hln:ln≤17592186044416:=h.sl;clear h;refine mn (dZ D.w) fun y hy=>?_;have HY:=ħ hy;clear hy;show Calls prog 13 #[.agg (cS D.w Pw lA ln lc)] w _;go_enter func13,ntmps13
 go_wp2_with fail
 have hbX:Below w w (w.alloc (.cells (cS D.w Pw lA ln lc) 30)):=y0;refine (Da ⟨Pw,⟨lA,ln,lc⟩⟩ D _ (H.out.up hbX)).mono ?_;rintro e w1 ⟨x,rfl,hx,hb1⟩;have hB1:Blk w1 w.heap.size 30 (cS D.w Pw lA ln lc):=(Blk.new w 30 (cS D.w Pw lA ln lc)).up hb1;have hb1w:=aA hbX hb1;cases x
 case true=>
  clear hx;go_wp2_with fail
  go_ret
  exact ⟨rfl,hb1w⟩
 case false=>
 have HLI:=ħ (hx rfl);have HSZ:=ħ (F8 H.out (hx rfl));have HB1:=ħ hB1;clear hx hB1 hb1 hbX;have x_l:=HB1.out.lt;have x_f:=HB1.out.frozen;obtain ⟨x0,x1,x2,x3,x4,x5,x6,x7,x8,x9⟩:=gO HB1.out.box
 have hr9:w1.rangeAt w.heap.size 0 (cW D.w Pw):=fun j u hu=>by
  rw [Nat.zero_add];exact Ak (l:=(cW D.w Pw)) (m:=[.slice lA ln lc]) HB1.out.box hu
 go_upto_region 4 with (go_at_call 17;refine (bK Pw D.w _ (H.out.wk.up hb1w) (HSZ.out.big y5)).mono ?_;rintro e w2 ⟨P2,he2,hO2,hb2⟩;simp only [aF.val] at he2;subst he2;clear x_l x_f x0 x1 x2 x3 x4 x5 x6 x7 x8 x9)
 refine aW (fun W2 hW2=>?_);refine nm w2.heap.size fun gf hgf=>?_;have h2W:Below w2 w2 W2:=by rw [hW2];exact aB (Below.refl _ _)
 have HF2:Hid (Blk W2 gf 27 (cW D.w P2)):=ħ (by rw [hW2,hgf];exact Blk.new w2 27 (cW D.w P2));have HO2:=ħ ((hO2.up h2W).mono (Nat.zero_le _));have HB2:=ħ ((HB1.out.up hb2).up h2W);have hbw2:Below w w W2:=aA (aA hb1w hb2) h2W;have hgfw:w.heap.size<gf:=by rw [hgf];exact Nat.lt_of_lt_of_le HB1.out.lt hb2.size
 try rw [←hgf]
 clear hW2 hgf h2W hO2 hb2 hb1w HB1 hr9;have f_l:=HF2.out.lt;have f_f:=HF2.out.frozen;obtain ⟨f0,f1,f2,f3,f4,f5,f6,f7,f8⟩:=bx9 HF2.out.box;cases y
 all_goals
  go_upto_region 9 with (first|(go_at_call 19;refine (mE _ _).mono ?_;rintro e w' ⟨rfl,rfl⟩)|(go_at_call 18;refine (eZ P2 D.w _ _ (HO2.out.work (HSZ.out.big y5)) HY.out).mono ?_;rintro e w3 ⟨rfl,hb3⟩;clear f_l f_f f0 f1 f2 f3 f4 f5 f6 f7 f8;have HF3:=ħ (HF2.out.up hb3);have f_l:=HF3.out.lt;have f_f:=HF3.out.frozen;obtain ⟨f0,f1,f2,f3,f4,f5,f6,f7,f8⟩:=bx9 HF3.out.box)|(go_at_call 20;refine (CF P2 D.w _ _ ((HO2.out.up hb3).work (HSZ.out.big y5)) HY.out).mono ?_;rintro e w4 ⟨rfl,hb4⟩;have hb34:=aA hb3 hb4;clear f_l f_f f0 f1 f2 f3 f4 f5 f6 f7 f8;have HF4:=ħ (HF3.out.up hb4)))
  have HO4:=ħ (HO2.out.up hb34);have HB4:=ħ (HB2.out.up hb34);have hbw4:=aA hbw2 hb34;clear HF2 HF3 HO2 HB2 hbw2 hb3 hb4 hb34 HY;go_wp2_with fail
  go_loopw [5] (fun iv wr=>∃(k:Nat) (X:aF) (E:aD),k≤ln∧k≤12∧iv=.int .i64 k∧Sz k E∧Hid (Blk wr gf 27 (cW E X))∧Hid (aX wr 0 X E)∧Hid (Blk wr w.heap.size 30 (cS D.w Pw lA ln lc))∧Below w w wr) (fun iv _=>ln-(intOf iv).toNat)
  case atStart=>exact ⟨0,P2,D.w,Nat.zero_le _,by decide,rfl,HSZ.out,HF4,HO4,HB4,hbw4⟩
  case round=>
   clear HF4 HO4 HB4 hbw4;obtain ⟨k,X,E,hk,hk12,rfl,hsz,HF,HX,HB,hbw⟩:=hrel
   (obtain ⟨wk,hwk⟩:∃x,x=wr:=⟨_,rfl⟩);subst hwk
   have b_l:=HB.out.lt;have b_f:=HB.out.frozen;obtain ⟨b0,b1,b2,b3,b4,b5,b6,b7,b8,b9⟩:=gO HB.out.box;by_cases hgo:k<ln∧k<12
   · obtain ⟨hlt,h12⟩:=hgo;obtain ⟨lb,lo,rfl,hlb,hc⟩:=H.out.l.2.2 (show 0<ln by omega);obtain ⟨MP,SP,hat,hM,hI⟩:=hc k hlt;refine mn (jth D.l k) fun a ha=>?_;rw [ha] at hat hM hI;have ham:a∈D.l:=by rw [←ha];exact cB (by rw [H.out.l.1];exact hlt)
     have hal:=HLI.out.li a ham;have hmw:=HLI.out.lm a ham;have HAT:Hid (∀Q,Below w w Q→Q.rangeAt lb (lo+k*26) (jW MP SP a)):=ħ (fun Q hQ r u hu=>((aK hQ).1 _ _ hlb).trans (hat r u hu));have HM:=ħ hM;have HI:=ħ hI;clear hc hat hM hI ha ham;have q12:decide ((k:Int)<12)=true:=by simp;omega
     have qln:decide ((k:Int)<(ln:Int))=true:=by simp;omega
     go_upto_region 12 with fail
     go_cut [6,7] from 31 to 41 (fun s6 s7 wx=>∃(g:Nat) (Y:aF) (F:aD),s6=.pointer (some ⟨g,0,none⟩)∧s7=.bool true∧wk.heap.size≤g∧Hid (Blk wx g 27 (cW F Y))∧Hid (bG wx Y F)∧Sz (k+1) F∧Below wk wk wx)
     case first=>
      obtain ⟨S,hSd⟩:∃S:World→Prop,S=fun Q=>Q.rangeAt gf 0 (cW E X)∧Q.cell? ⟨w,9,none⟩=some (.slice (some ⟨lb,lo,none⟩) ln lc)∧Q.rangeAt lb (lo+k*26) (jW MP SP a):=⟨_,rfl⟩;have hS1:∀Q,S Q→Q.rangeAt gf 0 (cW E X):=fun Q h=>by rw [hSd] at h;exact h.1
      have hS2:∀Q,S Q→Q.cell? ⟨w,9,none⟩=some (.slice (some ⟨lb,lo,none⟩) ln lc):=fun Q h=>by rw [hSd] at h;exact h.2.1
      have hS3:∀Q,S Q→Q.rangeAt lb (lo+k*26) (jW MP SP a):=fun Q h=>by rw [hSd] at h;exact h.2.2
      have hS:∀Q,Below wk wk Q→S Q:=fun Q hQ=>by rw [hSd];exact ⟨(HF.out.up hQ).rng,(HB.out.up hQ).box.2 9 _ rfl,HAT.out Q (aA hbw hQ)⟩
      clear hSd;have hkl:(k:Int)<(ln:Int):=by omega
      have hk0:(0:Int)≤(k:Int):=by omega
      refine hd hS fun hHeld=>?_;have hbd:=bdr wk;generalize wk.drew=Z at *;refine ld 0 32 hS1 underlying27 ?_;refine tk 1 33 ?_;refine tq 2 34 hS2 ?_;refine tk 3 35 ?_;refine tk 4 36 ?_;refine ld 5 37 hS3 underlying51 ?_;refine ry2 6 10 (fun K hK=>?_) fun K hK=>?_
      · skip
        go_simp;(go_at_call 21;refine (DC (i:=k) X E MP SP a _ ((HX.out.up hbd).work (hsz.big y2)) hsz hk12 (HM.out.up (aA hbw hbd)) (HI.out.up (aA hbw hbd)) hal hmw).mono ?_;rintro e w5 ⟨Y,F,he5,hor,hb5,hF⟩;simp only [aF.val] at he5;subst he5)
        have hbb5:=aA hbd hb5
        have HYS:Hid (∀V,aC 27 w5 V→w5.heap.size≤V.heap.size→bG V Y F):=ħ (fun V hV hz=>by
         rcases hor with ⟨rfl,rfl⟩|hor
         · exact ((HX.out.up hbb5).tk hV aU).work (hsz.big y2)
         · exact hor V hV hz)
        clear hor;refine hkq hK (hS _ hbb5) fun hHeld=>?_;clear hK K;refine tk 7 31 ?_;refine tk 8 39 ?_;refine tk 9 40 ?_;refine ry 10 fun K hK=>?_;go_simp;refine nm w5.heap.size fun g4 hg4=>?_;obtain ⟨ZB,hZB⟩:∃Zr:World,Zr=w5.alloc (.cells cZ 27):=⟨_,rfl⟩;rw [←hg4,← hZB];have hza:Blk ZB g4 27 cZ:=by rw [hZB,hg4];exact Blk.new _ 27 cZ
        have hbz:Below w5 w5 ZB:=by rw [hZB];exact aB (Below.refl _ _)
        have hbbz:=aA hbb5 hbz;have hg4k:wk.heap.size≤g4:=by rw [hg4];exact hbb5.size
        clear hg4 hZB;refine hkq hK (hS _ hbbz) fun hHeld=>?_;clear hK K;refine ry 11 fun K hK=>?_;have z_l:=hza.lt;have z_f:=hza.frozen;obtain ⟨z0,z1,z2,z3,z4,z5,z6,z7,z8⟩:=bx9 hza.box;go_simp;clear z_l z_f z0 z1 z2 z3 z4 z5 z6 z7 z8;have hbb9:=nW F Y (bU hbbz hg4k);have HYR:=ħ (HYS.out _ ((aC.of_below hbz).trans (nW F Y (aC.sets9 hza))) (by have h3:=hbz.size;simp [World.setCell];exact h3));refine hkq hK (hS _ hbb9) fun hHeld=>?_;clear hK K;refine tk 12 7 ?_;refine wz ?_;go_wp2_with fail
        go_meet
        exact ⟨g4,Y,F,rfl,rfl,hg4k,ħ (nW F Y (gF hza rfl)),HYR,hF,hbb9⟩
      · skip
        go_simp;refine nm Z.heap.size fun g4 hg4=>?_;obtain ⟨ZB,hZB⟩:∃Zr:World,Zr=Z.alloc (.cells cZ 27):=⟨_,rfl⟩;rw [←hg4,← hZB];have hza:Blk ZB g4 27 cZ:=by rw [hZB,hg4];exact Blk.new _ 27 cZ
        have hbz:Below Z Z ZB:=by rw [hZB];exact aB (Below.refl _ _)
        have hbbz:=aA hbd hbz;have hg4k:wk.heap.size≤g4:=by rw [hg4];exact hbd.size
        clear hg4 hZB;refine hkq hK (hS _ hbbz) fun hHeld=>?_;clear hK K;refine ry 6 fun K hK=>?_;go_simp;(go_at_call 21;refine (DC (i:=k) X E MP SP a _ ((HX.out.up hbbz).work (hsz.big y2)) hsz hk12 (HM.out.up (aA hbw hbbz)) (HI.out.up (aA hbw hbbz)) hal hmw).mono ?_;rintro e w5 ⟨Y,F,he5,hor,hb5,hF⟩;simp only [aF.val] at he5;subst he5)
        have hbb5:=aA hbbz hb5
        have HYS:Hid (∀V,aC 27 w5 V→w5.heap.size≤V.heap.size→bG V Y F):=ħ (fun V hV hz=>by
         rcases hor with ⟨rfl,rfl⟩|hor
         · exact ((HX.out.up hbb5).tk hV aU).work (hsz.big y2)
         · exact hor V hV hz)
        clear hor;have hza5:=hza.up hb5;refine hkq hK (hS _ hbb5) fun hHeld=>?_;clear hK K;refine tk 7 31 ?_;refine tk 8 39 ?_;refine tk 9 40 ?_;refine ry 11 fun K hK=>?_;have z_l:=hza5.lt;have z_f:=hza5.frozen;obtain ⟨z0,z1,z2,z3,z4,z5,z6,z7,z8⟩:=bx9 hza5.box;go_simp;clear z_l z_f z0 z1 z2 z3 z4 z5 z6 z7 z8;have hbb9:=nW F Y (bU hbb5 hg4k);have HYR:=ħ (HYS.out _ (nW F Y (aC.sets9 hza5)) y67);refine hkq hK (hS _ hbb9) fun hHeld=>?_;clear hK K;refine tk 12 7 ?_;refine wz ?_;go_wp2_with fail
        go_meet
        exact ⟨g4,Y,F,rfl,rfl,hg4k,ħ (nW F Y (gF hza5 rfl)),HYR,hF,hbb9⟩
     case rest=>
     obtain ⟨g,Y,F,rfl,rfl,hgk,HG,HYR,hF,hbc⟩:=hcut;refine nm wc fun wy hwy=>?_;subst hwy;have HFY:=ħ (HF.out.up hbc);have HBY:=ħ (HB.out.up hbc);have hbwy:=aA hbw hbc;clear HF HB HX HI HM HAT b_l b_f b0 b1 b2 b3 b4 b5 b6 b7 b8 b9;have g_l:=HG.out.lt;have g_f:=HG.out.frozen;obtain ⟨g0,g1,g2,g3,g4,g5,g6,g7,g8⟩:=bx9 HG.out.box;have f_l:=HFY.out.lt;have f_f:=HFY.out.frozen;obtain ⟨f0,f1,f2,f3,f4,f5,f6,f7,f8⟩:=bx9 HFY.out.box;go_wp2_with (go_at_call 17;refine (bK Y F _ HYR.out (hF.big y2)).mono ?_;rintro e w7 ⟨P7,he7,hO7,hb7⟩;simp only [aF.val] at he7;subst he7;have HO7:=ħ hO7;clear hO7 g_l g_f g0 g1 g2 g3 g4 g5 g6 g7 g8 f_l f_f f0 f1 f2 f3 f4 f5 f6 f7 f8;have HF7:=ħ (HFY.out.up hb7);have HB7:=ħ (HBY.out.up hb7);have hbw7:=aA hbwy hb7;have f_l:=HF7.out.lt;have f_f:=HF7.out.frozen;obtain ⟨f0,f1,f2,f3,f4,f5,f6,f7,f8⟩:=bx9 HF7.out.box)
     (refine rnd ?_;exact ⟨k+1,P7,F,by omega,by omega,by go_num,hF,ħ (nW F P7 (gF HF7.out rfl)),ħ ((HO7.out.tk (nW F P7 (aC.sets9 HF7.out)) aU).mono (Nat.zero_le _)),ħ (nW F P7 (HB7.out.sets9 y2)),nW F P7 (bU hbw7 y2)⟩)
   · by_cases hq1:k<ln
     · have q2:decide ((k:Int)<12)=false:=by simp;omega
       have q1:decide ((k:Int)<(ln:Int))=true:=by simp;omega
       go_wp2_with (go_at_call 22;refine (zD _).mono ?_;rintro e w9 ⟨rfl,hb9⟩)
       go_ret
       exact ⟨rfl,aA hbw hb9⟩
     · have q1:decide ((k:Int)<(ln:Int))=false:=by simp;omega
       go_wp2_with (go_at_call 22;refine (zD _).mono ?_;rintro e w9 ⟨rfl,hb9⟩)
       go_ret
       exact ⟨rfl,aA hbw hb9⟩
section
open Go.ChangeShapes Go.WideShapes Go.ChangeAt Go.RowKit
theorem Af:ownKnob prog.godebug=none:=by kernel_rfl
theorem uK:laidOutB prog=true:=by kernel_rfl
theorem wJ (os:Os) (started:os.Started) (H:Type) (enc:TypeId×Value→H) :
 ReturnsInHanded {} Tryz.checked os 13 .any (Rows.workerExactSpec.pre6 enc prog Tryz.f13 Rows.workerExactRow.domain false) (Rows.workerExactSpec.post enc prog Tryz.f13 false true false false):=by
 refine returnsInHanded_of_change_sized (C:=Tryz.checked) Af started y8 func13
  (ChangeSpec.witness6 (enc:=enc) (C:=Tryz.checked) false ⟨#[],#[.agg cY],[]⟩ 8 y8 y8 y8 y8) ?_
 intro W base args ds gs before hval0 hW hcnd hsz0 _;have hval:∀(j:Nat) t v,Tryz.f13.params[j]? =some t→args[j]? =some v→Value.okWide prog W .any base t v:=hval0;have hW':=hW;obtain ⟨p,q,hA0,hV,rfl,hfz,hnd⟩:=hW;have hA:DataW.TrodAll enc prog W 0 (fun _=>true) true Tryz.f13.params.toList args.toList ds p:=hA0;have hsz:(DataW.weightsEach prog (Tryz.f13.params.toList ++ Rows.workerExactSpec.plain.varTypes prog) (ds ++ gs)).all (·≤reachBytes)=true:=hsz0;rw [Tryz.params13] at hA hval hsz;obtain ⟨v0,vs0,d0,ds0,p0,q0,hargs,rfl,rfl,h0,r0⟩:=trodAll_cons hA;obtain ⟨rfl,rfl,rfl⟩:=trodAll_nil r0;obtain rfl:args=#[v0]:=by cases args;simp_all
 obtain ⟨rfl,rfl⟩:=trodVars_none hV;have k0:=h0;have lt0:∀x∈p0,x.block<W.heap.size:=by obtain ⟨m,hm⟩:=k0;exact DataW.trod_lt m _ _ _ hm
 have hwk:Wok 30 d0:=fun b hb=>by
  have:=List.all_eq_true.1 hsz b (DataW.weights_mem_each (j:=0) rfl rfl b hb);simpa using this
 obtain ⟨P,D,rfl,hR⟩:=E9 (hval 0 30 v0 rfl rfl) h0 hwk;clear hA0 hval0 hsz0;refine (zV P D W hR).mono fun e W' ⟨he,bel⟩=>?_;subst he;exact ⟨_,rfl,_,_,_,[],_,[],hW',trodAll_mk1 (shut_bool underlying4 _),(trodAll_cons_mk (Below.trod uK y8 (of_decide_eq_true y8) k0 bel lt0) trodAll_mk0),rfl,bel.frame _,fun h=>by cases h⟩
theorem yQ:Rows.workerExactRow.holds Tryz.pinned (OpenSpec.ofChange Rows.workerExactSpec):=
 OpenClaim.holds_of_wide 13 Tryz.f13 rfl rfl rfl rfl rfl rfl rfl ⟨rfl,rfl,rfl,rfl,rfl⟩ rfl rfl rfl rfl rfl y8 func13 y8
  (of_decide_eq_true y8) (by unfold Func.isWrapper;first|(rw [if_pos (by decide +kernel)];kernel_rfl)|(rw [if_neg (by decide +kernel)];exact ⟨rfl,rfl⟩))
  (fun os started H enc _=>wJ os started H enc)
theorem workerExact_proved:Rows.WorkerExactSaid:=yQ
#print axioms workerExact_proved
end
section

end
end Go.Proofs.YtgfakefcmbpboaaGreat
