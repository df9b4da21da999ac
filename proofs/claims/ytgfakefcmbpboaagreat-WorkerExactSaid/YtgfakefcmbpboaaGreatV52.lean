/- Part 52 of what WorkerExact leans on. No conditions. -/
import Derived.Test.YtgfakefcmbpboaaGreatV47
import Derived.Test.YtgfakefcmbpboaaGreatV48
import Derived.Test.YtgfakefcmbpboaaGreatV49
import Derived.Test.YtgfakefcmbpboaaGreatV50
import Derived.Test.YtgfakefcmbpboaaGreatV51
namespace Go.Proofs.YtgfakefcmbpboaaGreat
set_option linter.all false
set_option maxRecDepth 100000
set_option maxHeartbeats 64000000
open _root_.Go.Proofs.Tryz Go.RowKit
open Tok
theorem Jm {M:aY} (h:mwS M≤2000):iA M:=by
 unfold mwS at h;have:=yS M.b.tx;exact ⟨by omega,by omega,by omega,by omega,by omega,by omega,by omega⟩
theorem EX {D:aD} {M:aY}:(sK D M).length≤1000000∧∀x∈sK D M,iA x:=by
 unfold sK;split
 · refine ⟨by simp,fun x hx=>?_⟩;simp only [List.mem_cons,List.not_mem_nil,or_false] at hx;subst hx;exact ⟨by simp [iO],by simp [iO],by simp [iO],by simp [iO],by simp [iO],by simp [iO],by simp [iO]⟩
 · exact ⟨by simp,fun x hx=>by cases hx⟩
theorem Fs {D:aD} (hs:∀x∈D.he,x.b.tx.length≤1000000) (fr:Int) (ds:List Int) (k:Nat):∀x∈fV D fr ds k,iA x:=by
 induction k with
 | zero=>intro x hx;simp [fV] at hx
 | succ k ih=>
  intro x hx;rw [jO] at hx;rcases List.mem_append.1 hx with hx|hx
  · exact ih x hx
  · split at hx
    · rename_i hk;simp only [List.mem_cons,List.not_mem_nil,or_false] at hx;subst hx;have h1:=(oB rfl hk).1;exact ⟨hs _ (cB h1),by simp [uS],by simp [uS],by simp [uS],by simp [uS],by simp [uS],by simp [uS]⟩
    · cases hx
theorem De {M:aY} {n:Int} (h:kI M n=true):1≤M.fr∧M.fr≤n:=by
 have h1:=((xG (y:=true) h).1 rfl).1;unfold hdM at h1;exact ⟨h1.2.1,h1.2.2.1⟩
theorem Jn {M:aY} {n:Int} (h:kI M n=true) (hk:M.ki=1∨M.ki=3):M.b.tx.length≤12000:=by
 have h1:=((xG (y:=true) h).1 rfl).2.1;unfold okM at h1;rw [if_pos hk] at h1;have h2:=wP.1 h1.2.1;unfold BmT at h2;omega
noncomputable def kE (D:aD) (M:aY):aD:=if M.ki=1∨M.ki=3 then rS D M else if M.ki=2 then Br D M.fr M.di else D
noncomputable def sP (D:aD) (M:aY):List aY:=if M.ki=1∨M.ki=3 then sK D M else if M.ki=2 then [] else fV D M.fr M.ds M.ds.length
theorem Sz.take {i:Nat} {D:aD} (h:Sz i D) {M:aY} (hm:kI M D.nodes=true):Sz (i+1) (kE D M):=by
 unfold kE;split
 · rename_i hk;exact h.held (Jn hm hk)
 · split
   · exact h.told _ _
   · exact h.next
theorem JC {i:Nat} {D:aD} (hs:Sz i D) (hi:i≤12) {k:Int} (h4:jC k):Fx D k (kE D) (sP D):=by
 have hb:=hs.big y2
 have big:∀M,iA M→M.ki=k→dZ D=true→kI M D.nodes=true→dY (kE D M)∧((kE D M).op.length≤1000000∧(kE D M).wa.length≤1000000∧(kE D M).he.length≤1000000∧(kE D M).re.length≤1000000∧(∀x∈(kE D M).wa,x.ak.length≤1000000)∧(∀x∈(kE D M).he,x.b.tx.length≤1000000))∧(sP D M).length≤1000000∧∀x∈sP D M,iA x:=fun M hm hki h1 h2=>by
  refine ⟨(hs.take h2).big y2,(hs.take h2).sm y2,?_⟩;unfold sP;split
  · exact EX
  · split
    · exact ⟨by simp,fun x hx=>by cases hx⟩
    · exact ⟨Nat.le_trans (yO D M.fr M.ds M.ds.length) hm.ds,Fs (hs.sm y2).2.2.2.2.2 _ _ _⟩
 have hak:∀x∈D.wa,x.ak.length≤50000:=fun x hx=>by have:=hs.ak x hx;omega
 have hre:D.re.length+D.wa.length≤800000000:=by have:=hs.re;omega
 by_cases hk:k=1∨k=3
 · have e1:∀M:aY,M.ki=k→kE D M=rS D M:=fun M e=>by unfold kE;rw [if_pos y89]
   have e2:∀M:aY,M.ki=k→sP D M=sK D M:=fun M e=>by unfold sP;rw [if_pos y89]
   refine ⟨fun P Pm M w h hp hm hki h1 h2 h3=>?_,fun P Pm M B w h hB hp hm hki h1 h2 h3=>?_,big⟩
   · rw [e1 M hki,e2 M hki];exact Cq P D Pm M w h hb hp (by rw [←hp.lens.1];exact Nat.le_trans hm.b y5) (by rw [hki];exact hk) (by rw [hki];exact ⟨h4⟩) h1 h2 h3
   · rw [e1 M hki,e2 M hki];exact CG P D Pm M B w h hb hB h1 hp.tx (by rw [←hp.lens.1];exact Nat.le_trans hm.b y5) (by rw [hki];exact hk)
 · by_cases hk2:k=2
   · have e1:∀M:aY,M.ki=k→kE D M=Br D M.fr M.di:=fun M e=>by unfold kE;rw [if_neg y89,if_pos (by rw [e];exact hk2)]
     have e2:∀M:aY,M.ki=k→sP D M=[]:=fun M e=>by unfold sP;rw [if_neg y89,if_pos (by rw [e];exact hk2)]
     refine ⟨fun P Pm M w h hp hm hki h1 h2 h3=>?_,fun P Pm M B w h hB hp hm hki h1 h2 h3=>?_,big⟩
     · rw [e1 M hki,e2 M hki];exact Dp P D Pm M w h hb hp hak hre (De h2) (by rw [hki];exact hk2) (by rw [hki];exact ⟨h4⟩) h1 h2 h3
     · rw [e1 M hki,e2 M hki];exact DI P D Pm M B w h hb hak hre (De h2) hB h1 (by rw [hki];exact hk2)
   · have hk7:k=7:=by unfold jC at h4;omega
     have e1:∀M:aY,M.ki=k→kE D M=D:=fun M e=>by unfold kE;rw [if_neg y89,if_neg (by rw [e];exact hk2)]
     have e2:∀M:aY,M.ki=k→sP D M=fV D M.fr M.ds M.ds.length:=fun M e=>by unfold sP;rw [if_neg y89,if_neg (by rw [e];exact hk2)]
     refine ⟨fun P Pm M w h hp hm hki h1 h2 h3=>?_,fun P Pm M B w h hB hp hm hki h1 h2 h3=>?_,big⟩
     · rw [e1 M hki,e2 M hki];exact Dq P D Pm M w h hb hp (by rw [←hp.ds.1];exact Nat.le_trans hm.ds y5) (by rw [hki];exact hk7) (by rw [hki];exact ⟨h4⟩) h1 h2 h3
     · rw [e1 M hki,e2 M hki];exact DJ P D Pm M B w h hb hB h1 hp.ds (by rw [←hp.ds.1];exact Nat.le_trans hm.ds y5) (by rw [hki];exact hk7)
theorem DC {i:Nat} (P:aF) (D:aD) (MP:bQ) (SP:SlP) (a:kF) (w:World) (h:bG w P D) (hs:Sz i D) (hi:i≤12) (hM:eO w MP a.m) (hI:aL w SP.A SP.n a.l) (hl:a.l.length≤12000) (hm:mwS a.m≤2000) :
 Calls prog 21 #[P.val D,J26 MP SP a] w (iP w P D (Sz (i+1))):=by
 have hb:=hs.big y2;obtain ⟨s1,s2,s3,s4,s5,s6⟩:=hs.sm y2;have hre:=hs.re;have hn:SP.n≤12000:=by rw [←hI.1];exact hl
 have o1:=hs.out a.l;have o2:=hs.into hl;refine mn (wiI a.doo 11) fun k hk=>?_;have hk0:0≤k∧k<11:=by rw [←hk];exact ⟨Int.emod_nonneg _ y2,Int.emod_lt_of_pos _ y2⟩
 have hc:(k=0∨k=1)∨k=2∨(k=3∨k=4)∨(k=5∨k=6∨k=7)∨k=8∨k=9∨k=10:=by omega
 rcases hc with h0|rfl|h3|h5|rfl|rfl|rfl
 · by_cases he:dZ D=true∧txS a.t=true∧D.op.length<64
   · exact BH P D MP SP a k w h hb h0 hk he.1 he.2.1 he.2.2 ⟨s2,s3,s4,s5,s6⟩ (hs.add a.t)
   · refine CB P D MP SP a k w h hb h0 hk ?_ hs.next;unfold xZ;split
     · rename_i g;rw [if_neg (fun g2=>he ⟨g.1,g.2,g2⟩)]
       decide
     · decide
 · exact F1 P D MP SP a w h hb hk y2 hs.next
 · exact F2 P D MP SP a k w h (hs.small hi) h3 hk hs.next (hs.seal a.d)
 · exact F3 P D MP SP a k w (kE D) (sP D) h hb h5 hk hM (Jm hm) (fun h4=>JC hs hi h4) hs.next (fun M _ _ _ _ g _=>hs.take g) s2 s3
 · exact F4 P D MP SP a w h hb hk (by have:=hs.wa;omega) ⟨s1,s2,s3,s4,s5,s6⟩ hs.next hs.tick
 · exact F5 P D MP SP a w h hb hk hI y2 y2 (o1.big y2) (o1.sm y2).2.2.2.1 ⟨s1,s2,s3,s5,s6⟩ hs.next o1
 · exact Fn P D MP SP a w h hb hk hI y2 y2 (o2.big y2) (o2.sm y2).2.2.2.1 ⟨s1,s2,s3,s5,s6⟩ hs.next o2
end Go.Proofs.YtgfakefcmbpboaaGreat
