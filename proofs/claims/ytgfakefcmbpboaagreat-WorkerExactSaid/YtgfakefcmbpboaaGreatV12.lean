/- Part 12 of what WorkerExact leans on. No conditions. -/
import Derived.Test.YtgfakefcmbpboaaGreatV11
namespace Go.Proofs.YtgfakefcmbpboaaGreat
set_option linter.all false
set_option maxRecDepth 100000
set_option maxHeartbeats 64000000
open _root_.Go.Proofs.Tryz Go.RowKit
open Tok
noncomputable def Jo (l:List Int):Bool:=dec l.Nodup
theorem Di {l:List Int}:Jo l=true↔l.Nodup:=bJ
theorem xP (sA:Option Addr) (sn sc:Nat) (s:List Int) (y:Bool) (w:World) (hs:aL w sA sn s) (hsc:sn≤sc) (hy:Jo s=y) :
 Calls prog 35 #[.slice sA sn sc] w fun e w'=>e=.returned (.bool y)∧Below w w w':=by
 have HS:=ħ hs;have HN:=ħ hs.1;have hsn:sn≤9223372036854775807:=hs.2.1;have HY:=ħ hy;clear hs hy;go_enter func35,ntmps35
 go_wp2_with fail
 go_loopw [3] (fun ix wr=>∃k:Nat,k≤sn∧ix=.int .i64 k∧Hid ((s.take k).Nodup)∧Below w w wr) (fun ix _=>sn-(intOf ix).toNat)
 case atStart=>exact ⟨0,Nat.zero_le _,rfl,ħ y17,Below.refl _ _⟩
 case round=>
  obtain ⟨k,hk,rfl,HU,hbw⟩:=hrel
  (obtain ⟨wk,hwk⟩:∃x,x=wr:=⟨_,rfl⟩);subst hwk
  by_cases hlt:k<sn
  · obtain ⟨b,off,rfl,hb,hc⟩:=(HS.out.up hbw).2.2 y2;have hck:=hc k hlt;clear hc;refine mn (nth s k) fun x hx=>?_;rw [hx] at hck;have HX:=ħ hx;have HKL:Hid (k<s.length):=ħ y18;refine mn (inS (s.take k) x) fun z hz=>?_;have HZ:=ħ hz;have HTK:=ħ ((HS.out.up hbw).take hk);have hksc:k≤sc:=by omega
    clear hx hz;by_cases hz0:z<0
    · have hz0d:decide (0≤z)=false:=by simp;omega
      have HNI:Hid (x∉s.take k):=ħ (iT.1 (by rw [HZ.out];exact hz0));go_wp2_with fail
      refine aQ y8 y8 (fun ι F hne hF hcl=>?_);have hcF0:=fun n o=>(aK (hF n)).1 (b) o y4;have HF:=ħ hF;clear hF;have HC:=ħ hcl;clear hcl
      repeat (any_goals (first
       | go_big_quiet_step (first|(go_at_call 70;exact Calls.fam_same ((eT _ k _ (s.take k) x _ (HTK.out.up (HF.out _))).mono (fun e w' h=>by rw [HZ.out] at h;exact h))))
       | (refine gq ?_ ?_<;>intro hb)))
      all_goals (refine wpQuiet_nil ?_;intro nq)
      all_goals (try (exfalso;omega))
      have hFwf:=HF.out nq;clear HF HC hne;generalize F nq=wf at *;go_wp2_with fail
      (refine rnd ?_;exact ⟨k+1,by omega,by go_num,ħ (rV HKL.out HX.out HU.out HNI.out),aA hbw hFwf⟩)
    · have hz0d:decide (0≤z)=true:=by simp;omega
      have HNI:Hid (x∈s.take k):=ħ (by
       have h9:¬inS (s.take k) x<0:=by rw [HZ.out];exact hz0
       exact Classical.not_not.1 (fun h=>h9 (iT.2 h)))
      go_wp2_with fail
      refine aQ y8 y8 (fun ι F hne hF hcl=>?_);have hcF0:=fun n o=>(aK (hF n)).1 (b) o y4;have HF:=ħ hF;clear hF;have HC:=ħ hcl;clear hcl
      repeat (any_goals (first
       | go_big_quiet_step (first|(go_at_call 70;exact Calls.fam_same ((eT _ k _ (s.take k) x _ (HTK.out.up (HF.out _))).mono (fun e w' h=>by rw [HZ.out] at h;exact h))))
       | (refine gq ?_ ?_<;>intro hb)))
      all_goals (refine wpQuiet_nil ?_;intro nq)
      all_goals (try (exfalso;omega))
      have hFwf:=HF.out nq;clear HF HC hne;generalize F nq=wf at *;go_wp2_with fail
      go_ret
      exact ⟨aH (by rw [←HY.out];exact dV fun h=>BY HKL.out HX.out HNI.out h),aA hbw hFwf⟩
  · obtain rfl:k=sn:=by omega
    have hu:=HU.out;rw [List.take_of_length_le y30] at hu;have hyes:y=true:=by rw [←HY.out];exact Di.2 hu
    subst hyes;clear hu;go_wp2_with fail
    go_ret
    exact ⟨rfl,hbw⟩
theorem Dt (A:Option Addr) (n c:Nat) (l:List TxD) (y:Bool) (w:World) (hl:bZ w A n l) (hy:Fq l=y):Calls prog 31 #[.slice A n c] w fun e w'=>e=.returned (.bool y)∧Below w w w':=
 (Ds A n c l w hl).mono fun e w' ⟨z,h1,h2,h3⟩=>⟨by
  rw [h1,show z=y from by rw [←hy,Bool.eq_iff_iff,h2,sQ,hl.1]],h3⟩
theorem eZ (P:aF) (D:aD) (y:Bool) (w:World) (h:bG w P D) (hy:dZ D=y):Calls prog 18 #[P.val D] w fun e w'=>e=.returned (.bool y)∧Below w w w':=by
 obtain ⟨⟨oA,on,oc⟩,⟨tA,tn,tc⟩,⟨eA,en,ec⟩,⟨rA,rn,rc⟩⟩:=P;have HO:Hid (bZ w oA on D.op):=ħ h.op;have HT:Hid (eC w tA tn D.wa):=ħ h.wa;have HE:Hid (dU w eA en D.he):=ħ h.he;have HR:Hid (aL w rA rn D.re):=ħ h.re;have hon:on≤9223372036854775807:=h.op.2.2.1;have hen:en≤9223372036854775807:=h.he.2.1;refine mn (isS D.nodes) fun ys hs=>?_;refine mn (AY D.age 0) fun y5 h5=>?_;refine mn (AY D.clock 0) fun y6 h6=>?_;refine mn (Fq D.op) fun yt ht=>?_;refine mn (wtB D.wa D.nodes) fun yw hw=>?_;refine mn (hdB D.he) fun yh hh=>?_;refine mn (yD D.re 1 65536) fun yd hd=>?_;refine mn (Jo D.re) fun yn hn=>?_;have hrc:rn≤rc:=h.rc;refine mn D.nodes fun nodes hnd=>?_;refine mn D.id fun id hid=>?_;refine mn D.next fun next hnx=>?_;refine mn D.age fun age hag=>?_;refine mn D.clock fun clock hck=>?_
 have hY:y=true↔(ys=true∧1≤id∧id≤nodes∧(1≤next∧next≤1099511627776)∧y5=true∧y6=true∧on≤64∧en≤1024∧yt=true∧yw=true∧yh=true∧yd=true∧yn=true):=by
  rw [←hy,cX];unfold Iy;rw [hs,eQ,h5,h6,ht,hw,hh,B4,hid,hnd,hnx,HO.out.1,HE.out.1,← hd,← hn,Di,yD,bJ];exact Iff.rfl
 have HY:=ħ hY;rw [hnd] at hs hw;rw [hag] at h5;rw [hck] at h6;have HS:=ħ hs;have H5:=ħ h5;have H6:=ħ h6;have HTX:=ħ ht;have HWT:=ħ hw;have HHD:=ħ hh;have HDG:=ħ hd;have HND:=ħ hn;show Calls prog 18 #[.agg (cV D oA on oc tA tn tc eA en ec rA rn rc)] w _;rw [hid,hnd,hnx,hag,hck];clear h hy hs h5 h6 ht hw hh hd hn hY hnd hid hnx hag hck;go_enter func18,ntmps18
 have hA:bX (w.alloc (.cells #[id,nodes,next,.slice oA on oc,age,clock,.slice tA tn tc,.slice eA en ec,.slice rA rn rc] 27)) w.heap.size [id,nodes,next,.slice oA on oc,age,clock,.slice tA tn tc,.slice eA en ec,.slice rA rn rc]:=bX.new w [id,nodes,next,.slice oA on oc,age,clock,.slice tA tn tc,.slice eA en ec,.slice rA rn rc] 27;have HA0:=ħ hA;clear hA;cases ys
 rotate_left;by_cases q1:1≤id
 rotate_left;have b1:decide (id<1)=true:=by simp;omega
 rotate_right
 have b1:decide (id<1)=false:=by simp;omega
 by_cases q2:id≤nodes
 rotate_left;have b2:decide (nodes<id)=true:=by simp;omega
 rotate_right
 have b2:decide (nodes<id)=false:=by simp;omega
 by_cases q3:1≤next
 rotate_left;have b3:decide (next<1)=true:=by simp;omega
 rotate_right
 have b3:decide (next<1)=false:=by simp;omega
 by_cases q4:next≤1099511627776
 rotate_left;have b4:decide (1099511627776<next)=true:=by simp;omega
 rotate_right
 have b4:decide (1099511627776<next)=false:=by simp;omega
 by_cases q5:on≤64
 rotate_left;have b5:decide ((64:Int)<(on:Int))=true:=by simp;omega
 rotate_right
 have b5:decide ((64:Int)<(on:Int))=false:=by simp;omega
 cases yt
 rotate_left;cases y5
 rotate_left;cases y6
 rotate_left;by_cases q9:en≤1024
 rotate_left;have b9:decide ((1024:Int)<(en:Int))=true:=by simp;omega
 rotate_right
 have b9:decide ((1024:Int)<(en:Int))=false:=by simp;omega
 cases yh
 rotate_left;cases yd
 rotate_left;cases yn
 rotate_left
 focus
  go_wp2_with (first|(go_at_call 30;(with_reducible refine (fH nodes _ _ HS.out).mono ?_);rintro e w' ⟨rfl,rfl⟩)|(go_at_call 32;(with_reducible refine (xO age _ _ H5.out).mono ?_);rintro e w' ⟨rfl,rfl⟩)|(go_at_call 32;(with_reducible refine (xO clock _ _ H6.out).mono ?_);rintro e w' ⟨rfl,rfl⟩)|(go_at_call 31;(with_reducible refine (Dt oA on oc D.op _ _ (HO.out.up y1) HTX.out).mono ?_);rintro e w1 ⟨rfl,hbw1⟩;have hBw1:=(HA0.out).up hbw1;obtain ⟨w1_0,w1_1,w1_2,w1_3,w1_4,w1_5,w1_6,w1_7,w1_8⟩:=bx9 hBw1;have hgw1:=hBw1.1;have HBw1:=ħ hBw1;clear hBw1)|(go_at_call 33;(with_reducible refine (Be eA en ec D.he _ _ (HE.out.up y1) HHD.out).mono ?_);rintro e w2 ⟨rfl,hbw2⟩;have hBw2:=(HBw1.out).up hbw2;obtain ⟨w2_0,w2_1,w2_2,w2_3,w2_4,w2_5,w2_6,w2_7,w2_8⟩:=bx9 hBw2;have hgw2:=hBw2.1;have HBw2:=ħ hBw2;clear hBw2)|(go_at_call 34;(with_reducible refine (lT rA rn rc D.re _ _ (HR.out.up y1) HDG.out).mono ?_);rintro e w' ⟨rfl,rfl⟩)|(go_at_call 35;(with_reducible refine (xP rA rn rc D.re _ _ (HR.out.up y1) hrc HND.out).mono ?_);rintro e w3 ⟨rfl,hbw3⟩;have hBw3:=(HBw2.out).up hbw3;obtain ⟨w3_0,w3_1,w3_2,w3_3,w3_4,w3_5,w3_6,w3_7,w3_8⟩:=bx9 hBw3;have hgw3:=hBw3.1;have HBw3:=ħ hBw3;clear hBw3))
  have hbz3:Below w w w3:=y0;have hfin:yw=true→y=true:=fun e=>HY.out.2 ⟨by trivial,by assumption,by assumption,⟨by assumption,by assumption⟩,by trivial,by trivial,by assumption,by assumption,by trivial,e,by trivial,by trivial,by trivial⟩;have hnon:yw=false→false=y:=fun e=>zX HY.out (by rintro ⟨g1,g2,g3,g4,g5,g6,g7,g8,g9,g10,g11,g12,g13⟩;rw [e] at g10;cases g10);have HFIN:=ħ hfin;have HNON:=ħ hnon;have HTN:=ħ HT.out.1;have htn:tn≤9223372036854775807:=HT.out.2.1;clear hfin hnon hbw1 hbw2 hbw3 HBw1 HBw2 HA0
  (try clear w1_0 w1_1 w1_2 w1_3 w1_4 w1_5 w1_6 w1_7 w1_8 w2_0 w2_1 w2_2 w2_3 w2_4 w2_5 w2_6 w2_7 w2_8 w3_0 w3_1 w3_2 w3_3 w3_4 w3_5 w3_6 w3_7 w3_8)
  go_loopw [3] (fun ix wr=>∃k:Nat,k≤tn∧ix=.int .i64 k∧Hid (∀j,j<k→xY D.wa nodes j)∧Hid (bX wr w.heap.size [id,nodes,next,.slice oA on oc,age,clock,.slice tA tn tc,.slice eA en ec,.slice rA rn rc])∧Below w w wr) (fun ix _=>tn-(intOf ix).toNat)
  case atStart=>exact ⟨0,Nat.zero_le _,rfl,ħ (fun j hj=>absurd hj y2),HBw3,hbz3⟩
  case round=>
   clear hbz3 HBw3 hgw1 hgw2 hgw3;obtain ⟨k,hk,rfl,HG,HB,hbw⟩:=hrel
   (obtain ⟨wk,hwk⟩:∃x,x=wr:=⟨_,rfl⟩);subst hwk
   have hg0:=HB.out.1;obtain ⟨q_0,q_1,q_2,q_3,q_4,q_5,q_6,q_7,q_8⟩:=bx9 HB.out;by_cases hlt:k<tn
   · obtain ⟨b,off,rfl,hb,hc⟩:=(HT.out.up hbw).2.2 y2;obtain ⟨B,m,d,⟨c0,c1⟩,hak⟩:=hc k hlt
     have hbad:¬xY D.wa nodes k→false=y:=fun h=>HNON.out (by
      cases hm:yw
      · rfl
      · exact absurd (rP.1 (HWT.out.trans hm) k (by rw [HTN.out];exact hlt)) h)
     have HBAD:=ħ hbad;refine nm (wth D.wa k) fun p hp=>?_;rw [←hp] at c0 hak;have HP:=ħ hp;refine nm ((wth D.wa (k-1)).di) fun o ho=>?_;have hd:0<k→wk.cell? ⟨b,off+(k-1)*2,none⟩=some (.int .i64 o):=fun h=>by rw [ho];obtain ⟨_,_,_,⟨q,_⟩,_⟩:=hc (k-1) y2;exact q
     have HO9:=ħ ho;have HD:=ħ hd;clear hc hd ho hp hbad;have hA:bX (wk.alloc (.cells #[p.di,.slice B m d] 56)) wk.heap.size [p.di,.slice B m d]:=bX.new wk [p.di,.slice B m d] 56;have hba:Below wk wk (wk.alloc (.cells #[p.di,.slice B m d] 56)):=y0;obtain ⟨a_0,a_1⟩:=bx2 hA;have HAK:=ħ (hak.up hba);clear hak hA;cases h1:fX p.di
     · have H1:=ħ h1;clear h1;go_wp2_with fail
       refine aQ y8 y8 (fun ι F hne hF hcl=>?_);have hcF0:=fun n o=>(aK (hF n)).1 (w.heap.size) o y4;have hcF1:=fun n o=>(aK (hF n)).1 (wk.heap.size) o y4;have hcF2:=fun n o=>(aK (hF n)).1 (b) o y4;have HF:=ħ hF;clear hF;have HC:=ħ hcl;clear hcl
       repeat (any_goals (first
        | go_big_quiet_step (first|(go_at_call 36;exact Calls.fam_same (dG p.di false _ H1.out)))
        | (refine gq ?_ ?_<;>intro hb)))
       all_goals (refine wpQuiet_nil ?_;intro nq)
       all_goals (try (exfalso;omega))
       have hFwf:=HF.out nq;clear HF HC hne;generalize F nq=wf at *;have hbf:Below w w wf:=aA hbw (aA hba hFwf);go_wp2_with fail
       go_ret
       exact ⟨aH (HBAD.out (fun g=>y65)),hbf⟩
     have H1:=ħ h1;clear h1;cases h3:Cv p.ak
     case' true=>cases h4:yD p.ak 1 nodes
     all_goals
      have H3:=ħ h3;clear h3
      (try have H4:=ħ h4)
      (try clear h4)
      rcases Nat.eq_zero_or_pos k with hk0|hk0
      case' inl=>
       subst hk0;rw [Nat.zero_mul,Nat.add_zero] at c0 c1
      case' inr=>
       have d0:=HD.out hk0;have hk1:(0:Int)<(k:Int):=by omega
       by_cases h2:o<p.di
       case' neg=>have h2b:decide (p.di≤o)=true:=by simp;omega
       case' pos=>have h2b:decide (p.di≤o)=false:=by simp;omega
      all_goals
       (try have H2:=ħ h2)
       (try clear h2)
       go_wp2_with fail
       refine aQ y8 y8 (fun ι F hne hF hcl=>?_);have hcF0:=fun n o=>(aK (hF n)).1 (w.heap.size) o y4;have hcF1:=fun n o=>(aK (hF n)).1 (wk.heap.size) o y4;have hcF2:=fun n o=>(aK (hF n)).1 (b) o y4;have HF:=ħ hF;clear hF;have HC:=ħ hcl;clear hcl
       repeat (any_goals (first
        | go_big_quiet_step (first|(go_at_call 36;exact Calls.fam_same (dG p.di true _ H1.out))|(go_at_call 37;exact Calls.fam HC.out (zH B m d p.ak _ _ (HAK.out.up (HF.out _)) H3.out))|(go_at_call 38;exact Calls.fam_same (Cu B m d p.ak 1 nodes _ _ (HAK.out.up (HF.out _)) H4.out)))
        | (refine gq ?_ ?_<;>intro hb)))
       all_goals (refine wpQuiet_nil ?_;intro nq)
       all_goals (try (exfalso;omega))
       have hFwf:=HF.out nq;clear HF HC hne;generalize F nq=wf at *;have hbf:Below w w wf:=aA hbw (aA hba hFwf);have hBf:=ħ ((HB.out.up hba).up hFwf);go_wp2_with fail
       first
        | (go_ret;exact ⟨aH (HBAD.out (fun g=>(by have g1:=wU _ _ _ |>.1 g.2.1;have g2:=g.2.2;rw [←HP.out] at g1 g2;first|(have g4:=g1.1;rw [H3.out] at g4;cases g4;done)|(have g4:=g1.2;rw [H4.out] at g4;cases g4;done)|(have g3:=g2 hk0;rw [←HO9.out] at g3;have h9:=H2.out;omega)))),hbf⟩)
        | (refine rnd ?_;exact ⟨1,by omega,rfl,ħ (fun j hj=>by ((obtain rfl:j=0:=by omega);exact ⟨by rw [←HP.out];exact H1.out,by rw [←HP.out];exact (wU _ _ _).2 ⟨H3.out,H4.out⟩,fun h=>absurd h y2⟩)),hBf,hbf⟩)
        | (refine rnd ?_;exact ⟨k+1,by omega,by go_num,ħ (fun j hj=>by (rcases Nat.lt_or_ge j k with h|h;exact HG.out j h;(obtain rfl:j=k:=by omega);exact ⟨by rw [←HP.out];exact H1.out,by rw [←HP.out];exact (wU _ _ _).2 ⟨H3.out,H4.out⟩,fun _=>by rw [←HP.out,← HO9.out];exact H2.out⟩)),hBf,hbf⟩)
   · obtain rfl:k=tn:=by omega
     have hyes:y=true:=HFIN.out (HWT.out.symm.trans (rP.2 (fun j hj=>HG.out j (by rw [HTN.out] at hj;exact hj))));subst hyes;go_wp2_with fail
     go_ret
     exact ⟨rfl,hbw⟩
 all_goals
  go_wp2_with (first|(go_at_call 30;(with_reducible refine (fH nodes _ _ HS.out).mono ?_);rintro e w' ⟨rfl,rfl⟩)|(go_at_call 32;(with_reducible refine (xO age _ _ H5.out).mono ?_);rintro e w' ⟨rfl,rfl⟩)|(go_at_call 32;(with_reducible refine (xO clock _ _ H6.out).mono ?_);rintro e w' ⟨rfl,rfl⟩)|(go_at_call 31;(with_reducible refine (Dt oA on oc D.op _ _ (HO.out.up y1) HTX.out).mono ?_);rintro e w1 ⟨rfl,hbw1⟩;have hBw1:=(HA0.out).up hbw1;obtain ⟨w1_0,w1_1,w1_2,w1_3,w1_4,w1_5,w1_6,w1_7,w1_8⟩:=bx9 hBw1;have hgw1:=hBw1.1;have HBw1:=ħ hBw1;clear hBw1)|(go_at_call 33;(with_reducible refine (Be eA en ec D.he _ _ (HE.out.up y1) HHD.out).mono ?_);rintro e w2 ⟨rfl,hbw2⟩;have hBw2:=(HBw1.out).up hbw2;obtain ⟨w2_0,w2_1,w2_2,w2_3,w2_4,w2_5,w2_6,w2_7,w2_8⟩:=bx9 hBw2;have hgw2:=hBw2.1;have HBw2:=ħ hBw2;clear hBw2)|(go_at_call 34;(with_reducible refine (lT rA rn rc D.re _ _ (HR.out.up y1) HDG.out).mono ?_);rintro e w' ⟨rfl,rfl⟩)|(go_at_call 35;(with_reducible refine (xP rA rn rc D.re _ _ (HR.out.up y1) hrc HND.out).mono ?_);rintro e w3 ⟨rfl,hbw3⟩;have hBw3:=(HBw2.out).up hbw3;obtain ⟨w3_0,w3_1,w3_2,w3_3,w3_4,w3_5,w3_6,w3_7,w3_8⟩:=bx9 hBw3;have hgw3:=hBw3.1;have HBw3:=ħ hBw3;clear hBw3))
  go_ret
  first
  | exact ⟨aH (zX HY.out (by rintro ⟨g1,g2,g3,g4,g5,g6,g7,g8,g9,g10,g11,g12,g13⟩;first|omega|(cases g1;done)|(exact g1.elim)|(cases g5;done)|(cases g6;done)|(cases g9;done)|(cases g10;done)|(cases g11;done)|(cases g12;done)|(cases g13;done))),y0⟩
noncomputable def BR (l:List Int) (m:Int):Bool:=decide ((l.length:Int)≤m)&&fP l 1 65536
noncomputable def iS (H:eG) (n:Int):Bool:=
 isS n&&decide (1≤H.au)&&decide (H.au≤n)&&decide (1≤H.ro)&&decide (H.ro≤1099511627776)&&BR H.ba 8&&BR H.pa n&&cond (H.ro == 1) (H.pa.length == 0) (decide (2*(n / 3)+1≤(H.pa.length:Int)))
noncomputable def mV (C:mG) (n:Int):Bool:=iS C.h n&&fX C.di&&fP C.si 1 n&&decide (2*(n / 3)+1≤(C.si.length:Int))
theorem mW (l:List Int) (lo hi:Int):fP l lo hi=(yD l lo hi&&Cv l):=by
 rw [Bool.eq_iff_iff,Bool.and_eq_true];simp only [fP,yD,Cv,bJ];exact ⟨fun ⟨a,b⟩=>⟨b,a⟩,fun ⟨a,b⟩=>⟨b,a⟩⟩
theorem C2 {H:eG} {n:Int} (h:iS H n=true):1≤n∧n≤16∧n % 3=1∧1≤H.au∧H.au≤n∧1≤H.ro∧H.ro≤1099511627776:=by
 simp only [iS,Bool.and_eq_true,decide_eq_true_eq,tY] at h;omega
theorem BG (A:Option Addr) (n c:Nat) (l:List Int) (m:Int) (w:World) (hl:aL w A n l) :
 Calls prog 129 #[.slice A n c,m] w fun e w'=>e=.returned (.bool (BR l m))∧Below w w w':=by
 unfold BR;have hll:=hl.1;have H1:=ħ hl;clear hl;have H2:=ħ hll;clear hll;go_enter func129,ntmps129
 go_wp2_with (first
  | (go_at_call 34;refine (xL _ _ _ l _ H1.out).mono ?_;rintro e w' ⟨rfl,rfl⟩)
  | (go_at_call 37;refine (sO _ _ _ l _ H1.out).mono ?_;rintro e w1 ⟨rfl,hb1⟩))
 all_goals (go_ret;refine ⟨aH ?_,aJ⟩;go_light;rw [Bool.eq_iff_iff];(first|(simp [mW,H2.out, *];done)|(simp_all [mW,H2.out];done)|(simp_all [mW,H2.out];omega)|(simp [mW,H2.out, *];omega)))
theorem zG (p:lM) (H:eG) (n:Int) (w:World) (hR:dE w p H) :
 Calls prog 127 #[.agg #[H.au,H.ro,p.b,p.p],n] w fun e w'=>e=.returned (.bool (iS H n))∧Below w w w':=by
 have hl1:=hR.1.1;have hl2:=hR.2.1;have H1:=ħ hR;clear hR;have H2:=ħ hl1;clear hl1;have H3:=ħ hl2;clear hl2;go_enter func127,ntmps127
 go_wp2_with (first
  | (go_at_call 30;refine (Dr _ _).mono ?_;rintro e w' ⟨rfl,rfl⟩)
  | (go_at_call 129;refine (BG _ _ _ _ _ _ (by first|exact H1.out.1.up y1|exact H1.out.2.up y1)).mono ?_;rintro e w1 ⟨rfl,hb1⟩;have hz_w1:w.heap.size+1≤w1.heap.size:=y19;have hc0_w1:=fun o=>(aK hb1).1 (w.heap.size) o y4))
 any_goals
  refine aQ y8 y8 (fun ι F hne hF hcl=>?_);have hcF0:=fun n o=>(aK (hF n)).1 (w.heap.size) o y4;have HF:=ħ hF;clear hF;have HC:=ħ hcl;clear hcl
  repeat (any_goals (first
   | go_big_quiet_step (first|(go_at_call 117;exact Calls.fam_same (zF _ _ y87 y87)))
   | (refine gq ?_ ?_<;>intro hb)))
  all_goals (refine wpQuiet_nil ?_;intro nq;go_wp2_with (fail))
 all_goals (go_ret;refine ⟨aH ?_,y0⟩;go_light;rw [Bool.eq_iff_iff];rcases hq0:(BR H.pa n) with _|_<;>(first|(simp [iS,H3.out, *];done)|(simp_all [iS,H3.out];done)|(simp_all [iS,H3.out];omega)|(simp [iS,H3.out, *];omega)))
theorem Fe (p:BL) (C:mG) (n:Int) (w:World) (hR:iB w p C) :
 Calls prog 128 #[.agg #[C.h.au,C.h.ro,p.h.b,p.h.p,C.di,p.s],n] w fun e w'=>e=.returned (.bool (mV C n))∧Below w w w':=by
 have hl1:=hR.2.1;have H1:=ħ hR;clear hR;have H2:=ħ hl1;clear hl1;go_enter func128,ntmps128
 go_wp2
 refine aQ y8 y8 (fun ι F hne hF hcl=>?_);have hcF0:=fun n o=>(aK (hF n)).1 (w.heap.size) o y4;have HF:=ħ hF;clear hF;have HC:=ħ hcl;clear hcl
 repeat (any_goals (first
  | go_big_quiet_step (first|(go_at_call 127;exact Calls.fam HC.out (zG p.h C.h _ _ (H1.out.1.up y1)))|(go_at_call 36;exact Calls.fam_same (sN _ _))|(go_at_call 37;exact Calls.fam HC.out (sO _ _ _ _ _ (H1.out.2.up y1)))|(go_at_call 38;exact Calls.fam_same (qB _ _ _ _ _ _ _ (H1.out.2.up y1)))|(go_at_call 117;exact Calls.fam_same (zF _ _ y85 y85)))
  | (refine gq ?_ ?_<;>intro hb)))
 all_goals (refine wpQuiet_nil ?_;intro nq;go_wp2_with (fail))
 all_goals (go_ret;refine ⟨aH ?_,y0⟩;go_light;rw [Bool.eq_iff_iff];(first|(simp [mV,mW,H2.out, *];done)|(simp_all [mV,mW,H2.out];done)|(simp_all [mV,mW,H2.out];omega)|(simp [mV,mW,H2.out, *];omega)))
noncomputable def AM (H:eG) (n:Int):Bool:=
 !(decide (H.au<1)||decide (n<H.au)||decide (H.ro<1)||decide (1099511627776<H.ro)||decide (8<(H.ba.length:Int)))&&
 (fP H.ba 1 65536&&fP H.pa 1 65536&&decide ((H.pa.length:Int)≤n)&&(decide (1<H.ro)||decide (H.pa.length=0)))
theorem As (H:eG) (n:Int):iS H n=(isS n&&AM H n&&(decide (H.ro=1)||decide (2*((n-1) / 3)+1≤(H.pa.length:Int)))):=by
 rw [Bool.eq_iff_iff];cases h:isS n
 · simp [iS,h]
 · have:=tY.1 h;have e:(n-1) / 3=n / 3:=by omega
   have e2:(H.pa.length == 0)=decide (H.pa.length=0):=by rw [Bool.eq_iff_iff];simp
   simp only [iS,AM,BR,e2];generalize H.pa.length=x;generalize H.ba.length=y;cases h1:fP H.ba 1 65536<;>cases h2:fP H.pa 1 65536<;>simp [h,e]
   by_cases h3:H.ro=1
   · simp [h3];omega
   · simp [h3];omega
theorem Am (C:mG) (n:Int):mV C n=(iS C.h n&&fX C.di&&fP C.si 1 n&&decide (2*((n-1) / 3)+1≤(C.si.length:Int))):=by
 cases h:iS C.h n
 · simp [mV,h]
 · have:=C2 h;have e:(n-1) / 3=n / 3:=by omega
   simp [mV,h,e]
theorem C4 (p:lM) (H:eG) (n:Int) (w:World) (hR:dE w p H) :
 Calls prog 162 #[.agg #[H.au,H.ro,p.b,p.p],n] w fun e w'=>e=.returned (.bool (AM H n))∧Below w w w':=by
 have hl1:=hR.1.1;have hl2:=hR.2.1;have H1:=ħ hR;clear hR;have H2:=ħ hl1;clear hl1;have H3:=ħ hl2;clear hl2;go_enter func162,ntmps162
 go_wp2_with (go_at_call 152;refine (wS _ _ _ _ _ (by first|exact H1.out.1.up (aJ)|exact H1.out.2.up (aJ))).mono ?_;rintro e w' ⟨rfl,rfl⟩)
 all_goals (go_ret;refine ⟨aH ?_,aJ⟩;go_light;rw [Bool.eq_iff_iff];(first|(simp [AM,H2.out,H3.out, *];done)|(simp_all [AM,H2.out,H3.out];done)|(simp_all [AM,H2.out,H3.out];omega)|(simp [AM,H2.out,H3.out, *];omega)))
theorem AO (p:lM) (H:eG) (n:Int) (w:World) (hR:dE w p H) :
 Calls prog 150 #[.agg #[H.au,H.ro,p.b,p.p],n] w fun e w'=>e=.returned (.bool (iS H n))∧Below w w w':=by
 have hl2:=hR.2.1;have H1:=ħ hR;clear hR;have H3:=ħ hl2;clear hl2;go_enter func150,ntmps150
 go_wp2
 refine aQ y8 y8 (fun ι F hne hF hcl=>?_);have hcF0:=fun n o=>(aK (hF n)).1 (w.heap.size) o y4;have HF:=ħ hF;clear hF;have HC:=ħ hcl;clear hcl
 repeat (any_goals (first
  | go_big_quiet_step (first|(go_at_call 71;exact Calls.fam_same (wT _ _))|(go_at_call 162;exact Calls.fam HC.out (C4 p H _ _ (H1.out.up y1)))|(go_at_call 149;exact Calls.fam_same (sI _ _ y87 y87)))
  | (refine gq ?_ ?_<;>intro hb)))
 all_goals (refine wpQuiet_nil ?_;intro nq;go_wp2_with (fail))
 all_goals (go_ret;refine ⟨aH ?_,y0⟩;go_light;rw [Bool.eq_iff_iff];(first|(simp [As,H3.out, *];done)|(simp_all [As,H3.out];done)|(simp_all [As,H3.out];omega)|(simp [As,H3.out, *];omega)))
theorem AP (p:BL) (C:mG) (n:Int) (w:World) (hR:iB w p C) :
 Calls prog 151 #[.agg #[C.h.au,C.h.ro,p.h.b,p.h.p,C.di,p.s],n] w fun e w'=>e=.returned (.bool (mV C n))∧Below w w w':=by
 have hl1:=hR.2.1;have H1:=ħ hR;clear hR;have H2:=ħ hl1;clear hl1;go_enter func151,ntmps151
 go_wp2
 refine aQ y8 y8 (fun ι F hne hF hcl=>?_);have hcF0:=fun n o=>(aK (hF n)).1 (w.heap.size) o y4;have HF:=ħ hF;clear hF;have HC:=ħ hcl;clear hcl
 repeat (any_goals (first
  | go_big_quiet_step (first|(go_at_call 150;exact Calls.fam HC.out (AO p.h C.h _ _ (H1.out.1.up y1)))|(go_at_call 110;exact Calls.fam_same (nV _ _))|(go_at_call 111;exact Calls.fam_same (jJ _ _ _ _ _ _ _ (H1.out.2.up y1)))|(go_at_call 149;exact Calls.fam_same (sI _ _ y85 y85)))
  | (refine gq ?_ ?_<;>intro hb)))
 all_goals (refine wpQuiet_nil ?_;intro nq;go_wp2_with (fail))
 all_goals (go_ret;refine ⟨aH ?_,y0⟩;go_light;rw [Bool.eq_iff_iff];(first|(simp [Am,H2.out, *];done)|(simp_all [Am,H2.out];done)|(simp_all [Am,H2.out];omega)|(simp [Am,H2.out, *];omega)))
end Go.Proofs.YtgfakefcmbpboaaGreat
