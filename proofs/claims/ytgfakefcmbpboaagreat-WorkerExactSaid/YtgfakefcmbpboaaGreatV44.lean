/- Part 44 of what WorkerExact leans on. No conditions. -/
import Derived.Test.YtgfakefcmbpboaaGreatV22
namespace Go.Proofs.YtgfakefcmbpboaaGreat
set_option linter.all false
set_option maxRecDepth 100000
set_option maxHeartbeats 64000000
open _root_.Go.Proofs.Tryz Go.RowKit
open Tok
structure eP (p:Nat→Prop) (w w':World):Prop where
 os:w'.os=w.os
 tape:w'.tape=w.tape
 output:w'.output=w.output
 size:w.heap.size≤w'.heap.size
 block:∀k,k<w.heap.size→p k→w'.heap[k]? =w.heap[k]?
theorem eP.refl (p:Nat→Prop) (w:World):eP p w w:=⟨rfl,rfl,rfl,Nat.le_refl _,fun _ _ _=>rfl⟩
theorem eP.trans {p:Nat→Prop} {a b c:World} (h:eP p a b) (k:eP p b c):eP p a c:=⟨k.os.trans h.os,k.tape.trans h.tape,k.output.trans h.output,Nat.le_trans h.size k.size,fun i h1 h2=>(k.block i (Nat.lt_of_lt_of_le h1 h.size) h2).trans (h.block i h1 h2)⟩
theorem eP.of_below {p:Nat→Prop} {w w':World} (h:Below w w w'):eP p w w':=⟨h.os,h.tape,h.output,h.size,fun k hk _=>h.block k hk⟩
theorem eP.set {p:Nat→Prop} {w x:World} {g o:Nat} {v:Value} (h:eP p w x) (hp:¬p g):eP p w (x.setCell ⟨g,o,none⟩ v):=⟨h.os,h.tape,h.output,by simpa [World.setCell] using h.size,fun k h1 h2=>(Below.heap_setCell _ _ _ _ (fun e=>hp (by have e':k=g:=e;rwa [e'] at h2))).trans (h.block k h1 h2)⟩
theorem eP.setCells {p:Nat→Prop} {b:Nat} (hb:¬p b):∀(vs:List Value) (o:Nat) (w x:World),eP p w x→eP p w (x.setCells b o vs)
 | [],_,_,_,h=>h
 | v :: r,o,w,x,h=>by
  rw [World.setCells];exact eP.setCells hb r (o+1) _ _ (h.set hb)
def nG (w:World) (p:Nat→Prop) (t:TypeId) (k:Nat) (s:SlP):Prop:=s.v=.slice none 0 0∨∃g cur,s.A=some ⟨g,0,none⟩∧¬p g∧w.heap[g]? =some (.cells cur t (0,0))∧s.n≤s.c∧s.c≤maxLen∧cur.size=s.c*k
theorem nG.keep {S:TypeId→Prop} {w w':World} {p:Nat→Prop} {k:Nat} {t:TypeId} {s:SlP} (h:nG w p t k s) (hk:aS S w w'):nG w' p t k s:=by
 rcases h with h|⟨g,cur,e,hb,hg,h1,h2,h3⟩
 · exact .inl h
 · obtain ⟨c',k1,k2,_⟩:=hk g cur _ hg;exact .inr ⟨g,c',e,hb,k1,h1,h2,by omega⟩
theorem lN.prot {w:World} {B k:Nat} {t:TypeId} {s:SlP} {p:Nat→Prop} (h:lN w B t k s) (hp:∀g,B≤g→g<w.heap.size→¬p g):nG w p t k s:=by
 rcases h with h|⟨g,cur,e,hb,hg,h1,h2,h3⟩
 · exact .inl h
 · exact .inr ⟨g,cur,e,hp g hb (Array.getElem?_eq_some_iff.1 hg).1,hg,h1,h2,h3⟩
theorem Cx (w:World) (p:Nat→Prop) (g n cap:Nat) (cur:Array Value) (ty:TypeId) (hg:w.heap[g]? =some (.cells cur 3 (0,0))) (hcs:cur.size=cap*1) (hnc:n≤cap) (hcm:cap≤maxLen) (hB:¬p g) (hn:n≤1000000000) (vb:Nat) (e:List Value) (he:e.length=1) (h1e:∀u∈e,u.oneCell'=true) (hx:∀j u,e[j]? =some u→w.cell? ⟨vb,j,none⟩=some u) :
 ∃v' w',(Builtin.append_ #[25,25] ty #[.slice (some ⟨g,0,none⟩) n cap,.slice (some ⟨vb,0,none⟩) 1 1]).run prog w=.ok v' w'∧eP p w w'∧aS (·=3) w w':=by
 obtain ⟨i0,hi,hz,hz1,hz2⟩:=info_parts BT
 have hnews:∀j u,e[j]? =some u→w.cell? ((⟨vb,0,none⟩:Addr).add j)=some u:=fun j u hu=>by
  rw [Addr.add_lit,Nat.zero_add];exact hx j u hu
 have hgl:g<w.heap.size:=(Array.getElem?_eq_some_iff.1 hg).1;by_cases hroom:n+1≤cap
 · have hr:=run_append_room (P:=prog) w 25 ty 3 i0 underlying25 hi g n cap cur hg ⟨vb,0,none⟩ 1 1 e y31 hnews h1e hroom y31;refine ⟨_,_,hr,⟨rfl,rfl,rfl,by simp,fun k hk hpk=>setRow_other w g k _ (fun e=>hB (e▸hpk))⟩,fun k c t hc=>?_⟩;by_cases h:k=g
   · subst h;rw [hg] at hc;injection hc with hc;injection hc with e1 e2 _;subst e1;subst e2;refine ⟨_,setRow_heap w k cur _ _ _ hg,?_,fun ht=>absurd rfl ht⟩;rw [hz1];simp only [List.size_toArray,List.length_append,List.length_take,List.length_drop,he,Array.length_toList];omega
   · exact ⟨c,(setRow_other w g k _ h).trans hc,rfl,fun _=>rfl⟩
 · have hnn:n=cap:=by omega
   have hold:∀j v,(cur.toList.take (n*1))[j]? =some v→w.cell? ((⟨g,0,none⟩:Addr).add j)=some v:=fun j v hj=>by
    rw [Addr.add_lit,Nat.zero_add];rw [List.getElem?_take] at hj;split at hj
    · simp [World.cell?,hg];simpa using hj
    · cases hj
   have hr:=run_append_grow (P:=prog) w 25 ty 3 i0 _ underlying25 hi hz ⟨g,0,none⟩ n cap (cur.toList.take (n*1)) y76 hold ⟨vb,0,none⟩ 1 1 e y31 hnews y2 y58 y39;have hb:Below w w (w.drew.alloc (.cells ((cur.toList.take (n*1)).toArray ++ e.toArray ++ Builtin.zeroCells (.int .i64 0:Value).cells (grownCap w (n+1) cap 3-(n+1))) 3)):=aB (aM (Below.refl _ _));exact ⟨_,_,hr,.of_below hb,.of_below hb⟩
theorem Aj {w:World} {ops:Array Oper} {rest:List Oper} {o:Oper} {a:Act} {Q:Exit→Act→World→Prop} (hgd:o.guard=none) (s x:Operand)
 (ho:o.op=.call {callee:=.builtin .append,args:=#[s,x],argTypes:=#[25,25]})
 (p:Nat→Prop) (g n cap:Nat) (cur:Array Value) (hs:a.eval s=.slice (some ⟨g,0,none⟩) n cap) (hg:w.heap[g]? =some (.cells cur 3 (0,0))) (hcs:cur.size=cap*1) (hnc:n≤cap) (hcm:cap≤maxLen) (hB:¬p g) (hn:n≤1000000000) (vb:Nat) (e:List Value) (he:e.length=1) (h1e:∀u∈e,u.oneCell'=true) (hx:a.eval x=.slice (some ⟨vb,0,none⟩) 1 1) (hc:∀j u,e[j]? =some u→w.cell? ⟨vb,j,none⟩=some u)
 (h:∀v' w',eP p w w'→aS (·=3) w w'→wpList prog ops Q rest (a.put o.dst v') w'):wpList prog ops Q (o :: rest) a w:=by
 obtain ⟨v',w',hrun,hb,hk⟩:=Cx w p g n cap cur o.type hg hcs hnc hcm hB hn vb e he h1e hc;exact Lib.wpList_append_run w hgd s x _ _ ho _ _ hs hx _ _ hrun (h v' w' hb hk)
theorem Dx (w:World) (p:Nat→Prop) (g n cap:Nat) (cur:Array Value) (ty:TypeId) (hg:w.heap[g]? =some (.cells cur 41 (0,0))) (hcs:cur.size=cap*4) (hnc:n≤cap) (hcm:cap≤maxLen) (hB:¬p g) (hn:n≤1000000000) (vb:Nat) (e:List Value) (he:e.length=4) (h1e:∀u∈e,u.oneCell'=true) (hx:∀j u,e[j]? =some u→w.cell? ⟨vb,j,none⟩=some u) :
 ∃v' w',(Builtin.append_ #[22,22] ty #[.slice (some ⟨g,0,none⟩) n cap,.slice (some ⟨vb,0,none⟩) 1 1]).run prog w=.ok v' w'∧eP p w w'∧aS (·=41) w w':=by
 obtain ⟨i0,hi,hz,hz1,hz2⟩:=info_parts C5
 have hnews:∀j u,e[j]? =some u→w.cell? ((⟨vb,0,none⟩:Addr).add j)=some u:=fun j u hu=>by
  rw [Addr.add_lit,Nat.zero_add];exact hx j u hu
 have hgl:g<w.heap.size:=(Array.getElem?_eq_some_iff.1 hg).1;by_cases hroom:n+1≤cap
 · have hr:=run_append_room (P:=prog) w 22 ty 41 i0 underlying22 hi g n cap cur hg ⟨vb,0,none⟩ 1 1 e y31 hnews h1e hroom y31;refine ⟨_,_,hr,⟨rfl,rfl,rfl,by simp,fun k hk hpk=>setRow_other w g k _ (fun e=>hB (e▸hpk))⟩,fun k c t hc=>?_⟩;by_cases h:k=g
   · subst h;rw [hg] at hc;injection hc with hc;injection hc with e1 e2 _;subst e1;subst e2;refine ⟨_,setRow_heap w k cur _ _ _ hg,?_,fun ht=>absurd rfl ht⟩;rw [hz1];simp only [List.size_toArray,List.length_append,List.length_take,List.length_drop,he,Array.length_toList];omega
   · exact ⟨c,(setRow_other w g k _ h).trans hc,rfl,fun _=>rfl⟩
 · have hnn:n=cap:=by omega
   have hold:∀j v,(cur.toList.take (n*4))[j]? =some v→w.cell? ((⟨g,0,none⟩:Addr).add j)=some v:=fun j v hj=>by
    rw [Addr.add_lit,Nat.zero_add];rw [List.getElem?_take] at hj;split at hj
    · simp [World.cell?,hg];simpa using hj
    · cases hj
   have hr:=run_append_grow (P:=prog) w 22 ty 41 i0 _ underlying22 hi hz ⟨g,0,none⟩ n cap (cur.toList.take (n*4)) y76 hold ⟨vb,0,none⟩ 1 1 e y31 hnews y2 y58 y39;have hb:Below w w (w.drew.alloc (.cells ((cur.toList.take (n*4)).toArray ++ e.toArray ++ Builtin.zeroCells (.agg #[z0,z0,.string ⟨#[]⟩,.string ⟨#[]⟩]:Value).cells (grownCap w (n+1) cap 41-(n+1))) 41)):=aB (aM (Below.refl _ _));exact ⟨_,_,hr,.of_below hb,.of_below hb⟩
theorem Bz {w:World} {ops:Array Oper} {rest:List Oper} {o:Oper} {a:Act} {Q:Exit→Act→World→Prop} (hgd:o.guard=none) (s x:Operand)
 (ho:o.op=.call {callee:=.builtin .append,args:=#[s,x],argTypes:=#[22,22]})
 (p:Nat→Prop) (g n cap:Nat) (cur:Array Value) (hs:a.eval s=.slice (some ⟨g,0,none⟩) n cap) (hg:w.heap[g]? =some (.cells cur 41 (0,0))) (hcs:cur.size=cap*4) (hnc:n≤cap) (hcm:cap≤maxLen) (hB:¬p g) (hn:n≤1000000000) (vb:Nat) (e:List Value) (he:e.length=4) (h1e:∀u∈e,u.oneCell'=true) (hx:a.eval x=.slice (some ⟨vb,0,none⟩) 1 1) (hc:∀j u,e[j]? =some u→w.cell? ⟨vb,j,none⟩=some u)
 (h:∀v' w',eP p w w'→aS (·=41) w w'→wpList prog ops Q rest (a.put o.dst v') w'):wpList prog ops Q (o :: rest) a w:=by
 obtain ⟨v',w',hrun,hb,hk⟩:=Dx w p g n cap cur o.type hg hcs hnc hcm hB hn vb e he h1e hc;exact Lib.wpList_append_run w hgd s x _ _ ho _ _ hs hx _ _ hrun (h v' w' hb hk)
theorem jP (s:SlP) (p:Nat→Prop) (w:World) (hr:nG w p 3 1 s) (hn:s.n≤1000000) :
 Calls prog 101 #[s] w fun e w'=>e=.returned (.tuple #[])∧eP p w w'∧aS (·=3) w w':=by
 obtain ⟨A,n,c⟩:=s;dsimp only at hn ⊢;rcases hr with h|⟨g,cur,h0,hgB,hg,h1,h2,h3⟩
 · unfold SlP.v at h;injection h with e1 e2 e3;subst e1;subst e2;subst e3;go_enter func101,ntmps101
   go_wp2_with fail
   go_loop [2] (fun i=>i=.int .i64 0) (fun _=>0)
   case atStart=>rfl
   case round=>
    obtain rfl:=hrel;go_wp2_with (at_builtin;refine fJ rfl (.tmp 12) (.tmp 13) rfl w.heap.size _ _ rfl (aE.nil _ _) _ 5 rfl (eH _ _ _) y17 (fE (Nat.le_refl _)) ?_;intro v1 w1 hown1 hg1 hbel1 hat1)
    go_end0
    have hb:Below w w w1:=Below.trans ((Below.refl _ _).alloc (Nat.le_refl _) _) hbel1;exact ⟨rfl,.of_below hb,.of_below hb⟩
 · dsimp only at h0 h1 h2 h3;subst h0;go_enter func101,ntmps101
   go_wp2_with fail
   go_loopw [2] (fun i wr=>∃(k:Nat) (cr:Array Value),k≤n∧i=.int .i64 k∧wr.heap[g]? =some (.cells cr 3 (0,0))∧cr.size=c*1∧eP p w wr∧aS (·=3) w wr) (fun i _=>n-(intOf i).toNat)
   case atStart=>exact ⟨0,cur,by omega,rfl,hg,h3,eP.refl _ _,.refl _ _⟩
   case round=>
    obtain ⟨k,cr,hk,rfl,hgr,hcr,hbw,hkw⟩:=hrel
    (obtain ⟨wk,hwk⟩:∃x,x=wr:=⟨_,rfl⟩);subst hwk
    have HG:=ħ hgr;have HK:=ħ hkw;have HB:=ħ hbw;by_cases hlt:k<n
    · obtain ⟨u,hu⟩:∃u,wk.cell? ⟨g,k,none⟩=some u:=⟨cr[k]'y2,by simp [World.cell?,hgr,show k<cr.size by omega]⟩;have hf:wk.frozen? ⟨g,k,none⟩=false:=by simp [World.frozen?,hgr]
      have hgl:g<wk.heap.size:=(Array.getElem?_eq_some_iff.1 hgr).1;clear hgr hkw hbw;go_wp2_with fail
      (refine rnd ?_;exact ⟨k+1,cr.setIfInBounds k (.int .i64 (-99)),by omega,by go_num,cC HG.out,by simp;omega,HB.out.set hgB,HK.out.trans (.set HG.out rfl)⟩)
    · have hsz:=hbw.size;have hgl:g<wk.heap.size:=(Array.getElem?_eq_some_iff.1 hgr).1;have hgr2:(wk.alloc (.cells #[.int .i64 5] 3)).heap[g]? =some (.cells cr 3 (0,0)):=(((Below.refl wk.heap.size wk).alloc (Nat.le_refl _) _).block g hgl).trans hgr;have HG2:=ħ hgr2;clear hgr hgr2 hkw hbw;go_wp2_with (at_builtin;refine Aj rfl (.tmp 12) (.tmp 13) rfl p g n c cr rfl HG2.out hcr h1 h2 hgB y2 _ [.int .i64 5] rfl y16 rfl (fun j u hu=>(by cases j with|zero=>(simp at hu;subst hu;exact eH _ _ _)|succ j=>simp at hu)) ?_;intro v1 w1 hb1 hk1)
      go_end0
      exact ⟨rfl,(HB.out.trans (.of_below (aB (Below.refl _ _)))).trans hb1,HK.out.trans (aS.trans (.of_below (aB (Below.refl _ _))) hk1)⟩
theorem D6 {p:Nat→Prop} {w0 w:World} {g:Nat} {cur:Array Value} {t:TypeId} (hg:w.heap[g]? =some (.cells cur t (0,0))) (hB:eP p w0 w) (hp:¬p g) (o0 o1 o2 o3:Nat) (v0 v1 v2 v3:Value):∃c':Array Value,((((w.setCell ⟨g,o0,none⟩ v0).setCell ⟨g,o1,none⟩ v1).setCell ⟨g,o2,none⟩ v2).setCell ⟨g,o3,none⟩ v3).heap[g]? =some (.cells c' t (0,0))∧c'.size=cur.size∧aS (·=t) w ((((w.setCell ⟨g,o0,none⟩ v0).setCell ⟨g,o1,none⟩ v1).setCell ⟨g,o2,none⟩ v2).setCell ⟨g,o3,none⟩ v3)∧eP p w0 ((((w.setCell ⟨g,o0,none⟩ v0).setCell ⟨g,o1,none⟩ v1).setCell ⟨g,o2,none⟩ v2).setCell ⟨g,o3,none⟩ v3):=
 ⟨_,(cC (cC (cC (cC hg)))),by simp,((aS.set (S:=(·=t)) hg rfl).trans ((aS.set (S:=(·=t)) (cC hg) rfl).trans ((aS.set (S:=(·=t)) (cC (cC hg)) rfl).trans (aS.set (S:=(·=t)) (cC (cC (cC hg))) rfl)))),((((hB.set hp).set hp).set hp).set hp)⟩
theorem E7 (s:SlP) (p:Nat→Prop) (w:World) (hr:nG w p 41 4 s) (hn:s.n≤1000000) :
 Calls prog 45 #[s] w fun e w'=>e=.returned (.tuple #[])∧eP p w w'∧aS (·=41) w w':=by
 obtain ⟨A,n,c⟩:=s;dsimp only at hn ⊢;rcases hr with h|⟨g,cur,h0,hgB,hg,h1,h2,h3⟩
 · unfold SlP.v at h;injection h with e1 e2 e3;subst e1;subst e2;subst e3;go_enter func45,ntmps45
   go_wp2_with fail
   go_loop [2] (fun i=>i=.int .i64 0) (fun _=>0)
   case atStart=>rfl
   case round=>
    obtain rfl:=hrel;go_wp2_with (at_builtin;refine nF rfl (.tmp 13) (.tmp 15) rfl rfl w.heap.size _ _ rfl (bD.nil _ _) w.heap.size 0 1 1 [⟨0,0,⟨#[]⟩,⟨#[]⟩⟩] rfl rfl (fun j u hu=>(by rw [Nat.zero_add];exact (bX.new w [z0,z0,.string ⟨#[]⟩,.string ⟨#[]⟩] 41).2 j u y64)) y17 (fE (Nat.le_refl _)) ?_;intro v1 w1 hown1 hg1 hbel1 hat1)
    go_end0
    have hb:Below w w w1:=Below.trans ((Below.refl _ _).alloc (Nat.le_refl _) _) hbel1;exact ⟨rfl,.of_below hb,.of_below hb⟩
 · dsimp only at h0 h1 h2 h3;subst h0;go_enter func45,ntmps45
   go_wp2_with fail
   go_loopw [2] (fun i wr=>∃(k:Nat) (cr:Array Value),k≤n∧i=.int .i64 k∧wr.heap[g]? =some (.cells cr 41 (0,0))∧cr.size=c*4∧eP p w wr∧aS (·=41) w wr) (fun i _=>n-(intOf i).toNat)
   case atStart=>exact ⟨0,cur,by omega,rfl,hg,h3,eP.refl _ _,.refl _ _⟩
   case round=>
    obtain ⟨k,cr,hk,rfl,hgr,hcr,hbw,hkw⟩:=hrel
    (obtain ⟨wk,hwk⟩:∃x,x=wr:=⟨_,rfl⟩);subst hwk
    have HG:=ħ hgr;have HK:=ħ hkw;have HB:=ħ hbw;by_cases hlt:k<n
    · obtain ⟨u0,hu0⟩:∃u,wk.cell? ⟨g,k*4,none⟩=some u:=⟨cr[k*4]'y2,by simp [World.cell?,hgr,show k*4<cr.size by omega]⟩;obtain ⟨u1,hu1⟩:∃u,wk.cell? ⟨g,k*4+1,none⟩=some u:=⟨cr[k*4+1]'y2,by simp [World.cell?,hgr,show k*4+1<cr.size by omega]⟩;obtain ⟨u2,hu2⟩:∃u,wk.cell? ⟨g,k*4+2,none⟩=some u:=⟨cr[k*4+2]'y2,by simp [World.cell?,hgr,show k*4+2<cr.size by omega]⟩;obtain ⟨u3,hu3⟩:∃u,wk.cell? ⟨g,k*4+3,none⟩=some u:=⟨cr[k*4+3]'y2,by simp [World.cell?,hgr,show k*4+3<cr.size by omega]⟩;have hf:∀o,wk.frozen? ⟨g,o,none⟩=false:=fun o=>by simp [World.frozen?,hgr]
      have hgl:g<wk.heap.size:=(Array.getElem?_eq_some_iff.1 hgr).1;obtain ⟨c',hc1,hc2,hc3,hc4⟩:=D6 HG.out HB.out hgB (k*4) (k*4+1) (k*4+2) (k*4+3) (.int .i64 (-9)) (.int .i64 0) (.string ⟨#[]⟩) (.string ⟨#[]⟩);have H1:=ħ hc1;have H2:=ħ hc2;have H3:=ħ hc3;have H4:=ħ hc4;clear hgr hkw hbw hc1 hc2 hc3 hc4;go_wp2_with fail
      (refine rnd ?_;exact ⟨k+1,c',by omega,by go_num,H1.out,by (rw [H2.out];exact hcr),H4.out,HK.out.trans H3.out⟩)
    · have hsz:=hbw.size;have hgl:g<wk.heap.size:=(Array.getElem?_eq_some_iff.1 hgr).1;have hgr2:(wk.alloc (.cells #[z0,z0,.string ⟨#[]⟩,.string ⟨#[]⟩] 41)).heap[g]? =some (.cells cr 41 (0,0)):=(((Below.refl wk.heap.size wk).alloc (Nat.le_refl _) _).block g hgl).trans hgr;have HG2:=ħ hgr2;have HBX:=ħ (bX.new wk [z0,z0,.string ⟨#[]⟩,.string ⟨#[]⟩] 41);clear hgr hgr2 hkw hbw;go_wp2_with (at_builtin;refine Bz rfl (.tmp 13) (.tmp 15) rfl p g n c cr rfl HG2.out hcr h1 h2 hgB y2 _ [z0,z0,.string ⟨#[]⟩,.string ⟨#[]⟩] rfl y16 rfl (fun j u hu=>HBX.out.2 j u hu) ?_;intro v1 w1 hb1 hk1)
      go_end0
      exact ⟨rfl,(HB.out.trans (.of_below (aB (Below.refl _ _)))).trans hb1,HK.out.trans (aS.trans (.of_below (aB (Below.refl _ _))) hk1)⟩
structure uO (w:World) (p:Nat→Prop) (P:bQ):Prop where
 b:nG w p 41 4 P.b
 bn:P.b.n≤1000000
 h1:nG w p 3 1 P.h.b
 h1n:P.h.b.n≤1000000
 h2:nG w p 3 1 P.h.p
 h2n:P.h.p.n≤1000000
 c1:nG w p 3 1 P.c.h.b
 c1n:P.c.h.b.n≤1000000
 c2:nG w p 3 1 P.c.h.p
 c2n:P.c.h.p.n≤1000000
 c3:nG w p 3 1 P.c.s
 c3n:P.c.s.n≤1000000
 ds:nG w p 3 1 P.ds
 dsn:P.ds.n≤1000000
theorem uO.keep {S:TypeId→Prop} {w w':World} {p:Nat→Prop} {P:bQ} (h:uO w p P) (hk:aS S w w'):uO w' p P:=⟨h.b.keep hk,h.bn,h.h1.keep hk,h.h1n,h.h2.keep hk,h.h2n,h.c1.keep hk,h.c1n,h.c2.keep hk,h.c2n,h.c3.keep hk,h.c3n,h.ds.keep hk,h.dsn⟩
def InP (w:World) (p:Nat→Prop) (g j:Nat):Prop:=∃(P:bQ) (M:aY),(∀r u,(dB P M)[r]? =some u→w.cell? ⟨g,j*18+r,none⟩=some u)∧uO w p P
theorem InP.other {S:TypeId→Prop} {w w':World} {p:Nat→Prop} {g j:Nat} (h:InP w p g j) (hk:aS S w w') (hc:∀r,r<18→w'.cell? ⟨g,j*18+r,none⟩=w.cell? ⟨g,j*18+r,none⟩):InP w' p g j:=by
 obtain ⟨P,M,h1,h2⟩:=h;exact ⟨P,M,fun r u hu=>(hc r (List.getElem?_eq_some_iff.1 hu).1).trans (h1 r u hu),h2.keep hk⟩
def IZ (w:World) (p:Nat→Prop) (s:SlP):Prop:=(s.v=.slice none 0 0)∨∃g cur,s.A=some ⟨g,0,none⟩∧¬p g∧w.heap[g]? =some (.cells cur 49 (0,0))∧s.n≤s.c∧s.c≤maxLen∧cur.size=s.c*18∧∀j,j<s.n→InP w p g j
theorem wZ (x y:SlP) (u v:Int) (p:Nat→Prop) (w:World) (hx:nG w p 3 1 x) (hy:nG w p 3 1 y) (hxn:x.n≤1000000) (hyn:y.n≤1000000) :
 Calls prog 99 #[.agg #[u,v,x,y]] w fun e w'=>e=.returned (.tuple #[])∧eP p w w'∧aS (·=3) w w':=by
 have HX:=ħ hx;have HY:=ħ hy;clear hx hy;go_enter func99,ntmps99
 have hbX:Below w w (w.alloc (.cells #[u,v,x,y] 45)):=aJ;have hX:Blk (w.alloc (.cells #[u,v,x,y] 45)) w.heap.size 45 [u,v,x,y]:=Blk.new w 45 [u,v,x,y];go_wp2_with fail
 generalize (w.alloc (.cells #[u,v,x,y] 45))=X at *;refine nm w.heap.size fun N hN=>?_;rw [←hN] at hX ⊢;clear hN;have HKX:Hid (aS (·=3) w X):=ħ (.of_below hbX);have HXX:=ħ hX;have HBX:=ħ (eP.of_below (p:=p) hbX);clear hX;refine (jP x p _ (HX.out.keep HKX.out) hxn).mono ?_;rintro e w1 ⟨rfl,hb1,hk1⟩;have hX1:=HXX.out.keepS hk1 y5;have hX1l:=hX1.lt;have HK1:=ħ (HKX.out.trans hk1);have HB1:=ħ (HBX.out.trans hb1);obtain ⟨a_0,a_1,a_2,a_3⟩:=bx4 hX1.box;clear hX1 hb1 hk1;go_wp2_with fail
 refine (jP y p _ (HY.out.keep HK1.out) hyn).mono ?_;rintro e w2 ⟨rfl,hb2,hk2⟩;clear a_0 a_1 a_2 a_3;go_wp2_with fail
 go_end0
 exact ⟨rfl,HB1.out.trans hb2,HK1.out.trans hk2⟩
theorem C8 (x y z:SlP) (u v d:Int) (p:Nat→Prop) (w:World) (hx:nG w p 3 1 x) (hy:nG w p 3 1 y) (hz:nG w p 3 1 z) (hxn:x.n≤1000000) (hyn:y.n≤1000000) (hzn:z.n≤1000000) :
 Calls prog 100 #[.agg #[u,v,x,y,d,z]] w fun e w'=>e=.returned (.tuple #[])∧eP p w w'∧aS (·=3) w w':=by
 have HX:=ħ hx;have HY:=ħ hy;have HZ:=ħ hz;clear hx hy hz;go_enter func100,ntmps100
 have hbX:Below w w (w.alloc (.cells #[u,v,x,y,d,z] 47)):=aJ;have hX:Blk (w.alloc (.cells #[u,v,x,y,d,z] 47)) w.heap.size 47 [u,v,x,y,d,z]:=Blk.new w 47 [u,v,x,y,d,z];go_wp2_with fail
 generalize (w.alloc (.cells #[u,v,x,y,d,z] 47))=X at *;refine nm w.heap.size fun N hN=>?_;rw [←hN] at hX ⊢;clear hN;have HKX:Hid (aS (·=3) w X):=ħ (.of_below hbX);have HXX:=ħ hX;have HBX:=ħ (eP.of_below (p:=p) hbX);clear hX;refine (wZ x y u v p _ (HX.out.keep HKX.out) (HY.out.keep HKX.out) hxn hyn).mono ?_;rintro e w1 ⟨rfl,hb1,hk1⟩;have hX1:=HXX.out.keepS hk1 y5;have hX1l:=hX1.lt;have HK1:=ħ (HKX.out.trans hk1);have HB1:=ħ (HBX.out.trans hb1);obtain ⟨a_0,a_1,a_2,a_3,a_4,a_5⟩:=bx6 hX1.box;clear hX1 hb1 hk1;go_wp2_with fail
 refine (jP z p _ (HZ.out.keep HK1.out) hzn).mono ?_;rintro e w2 ⟨rfl,hb2,hk2⟩;clear a_0 a_1 a_2 a_3 a_4 a_5;go_wp2_with fail
 go_end0
 exact ⟨rfl,HB1.out.trans hb2,HK1.out.trans hk2⟩
theorem yJ (w:World) (p:Nat→Prop) (g n cap:Nat) (cur:Array Value) (ty:TypeId) (hg:w.heap[g]? =some (.cells cur 49 (0,0))) (hcs:cur.size=cap*18) (hnc:n≤cap) (hcm:cap≤maxLen) (hB:¬p g) (hn:n≤1000000000) (vb:Nat) (e:List Value) (he:e.length=18) (h1e:∀u∈e,u.oneCell'=true) (hx:∀j u,e[j]? =some u→w.cell? ⟨vb,j,none⟩=some u) :
 ∃v' w',(Builtin.append_ #[68,68] ty #[.slice (some ⟨g,0,none⟩) n cap,.slice (some ⟨vb,0,none⟩) 1 1]).run prog w=.ok v' w'∧eP p w w'∧aS (·=49) w w':=by
 obtain ⟨i0,hi,hz,hz1,hz2⟩:=info_parts uT
 have hnews:∀j u,e[j]? =some u→w.cell? ((⟨vb,0,none⟩:Addr).add j)=some u:=fun j u hu=>by
  rw [Addr.add_lit,Nat.zero_add];exact hx j u hu
 have hgl:g<w.heap.size:=(Array.getElem?_eq_some_iff.1 hg).1;by_cases hroom:n+1≤cap
 · have hr:=run_append_room (P:=prog) w 68 ty 49 i0 underlying68 hi g n cap cur hg ⟨vb,0,none⟩ 1 1 e y31 hnews h1e hroom y31;refine ⟨_,_,hr,⟨rfl,rfl,rfl,by simp,fun k hk hpk=>setRow_other w g k _ (fun e=>hB (e▸hpk))⟩,fun k c t hc=>?_⟩;by_cases h:k=g
   · subst h;rw [hg] at hc;injection hc with hc;injection hc with e1 e2 _;subst e1;subst e2;refine ⟨_,setRow_heap w k cur _ _ _ hg,?_,fun ht=>absurd rfl ht⟩;rw [hz1];simp only [List.size_toArray,List.length_append,List.length_take,List.length_drop,he,Array.length_toList];omega
   · exact ⟨c,(setRow_other w g k _ h).trans hc,rfl,fun _=>rfl⟩
 · have hnn:n=cap:=by omega
   have hold:∀j v,(cur.toList.take (n*18))[j]? =some v→w.cell? ((⟨g,0,none⟩:Addr).add j)=some v:=fun j v hj=>by
    rw [Addr.add_lit,Nat.zero_add];rw [List.getElem?_take] at hj;split at hj
    · simp [World.cell?,hg];simpa using hj
    · cases hj
   have hr:=run_append_grow (P:=prog) w 68 ty 49 i0 _ underlying68 hi hz ⟨g,0,none⟩ n cap (cur.toList.take (n*18)) y76 hold ⟨vb,0,none⟩ 1 1 e y31 hnews y2 y58 y39;have hb:Below w w (w.drew.alloc (.cells ((cur.toList.take (n*18)).toArray ++ e.toArray ++ Builtin.zeroCells (.agg c18:Value).cells (grownCap w (n+1) cap 49-(n+1))) 49)):=aB (aM (Below.refl _ _));exact ⟨_,_,hr,.of_below hb,.of_below hb⟩
theorem uM {w:World} {ops:Array Oper} {rest:List Oper} {o:Oper} {a:Act} {Q:Exit→Act→World→Prop} (hgd:o.guard=none) (s x:Operand)
 (ho:o.op=.call {callee:=.builtin .append,args:=#[s,x],argTypes:=#[68,68]})
 (p:Nat→Prop) (g n cap:Nat) (cur:Array Value) (hs:a.eval s=.slice (some ⟨g,0,none⟩) n cap) (hg:w.heap[g]? =some (.cells cur 49 (0,0))) (hcs:cur.size=cap*18) (hnc:n≤cap) (hcm:cap≤maxLen) (hB:¬p g) (hn:n≤1000000000) (vb:Nat) (e:List Value) (he:e.length=18) (h1e:∀u∈e,u.oneCell'=true) (hx:a.eval x=.slice (some ⟨vb,0,none⟩) 1 1) (hc:∀j u,e[j]? =some u→w.cell? ⟨vb,j,none⟩=some u)
 (h:∀v' w',eP p w w'→aS (·=49) w w'→wpList prog ops Q rest (a.put o.dst v') w'):wpList prog ops Q (o :: rest) a w:=by
 obtain ⟨v',w',hrun,hb,hk⟩:=yJ w p g n cap cur o.type hg hcs hnc hcm hB hn vb e he h1e hc;exact Lib.wpList_append_run w hgd s x _ _ ho _ _ hs hx _ _ hrun (h v' w' hb hk)
theorem AV (s:SlP) (p:Nat→Prop) (w:World) (hr:IZ w p s) (hn:s.n≤1000000) :
 Calls prog 53 #[s] w fun e w'=>e=.returned (.tuple #[])∧eP p w w'∧aS zQ w w':=by
 obtain ⟨A,n,c⟩:=s;dsimp only at hn ⊢;rcases hr with h|⟨g,cur,h0,hgB,hg,h1,h2,h3,h4⟩
 · unfold SlP.v at h;injection h with e1 e2 e3;subst e1;subst e2;subst e3;go_enter func53,ntmps53
   go_wp2_with fail
   go_loop [2] (fun i=>i=.int .i64 0) (fun _=>0)
   case atStart=>rfl
   case round=>
    obtain rfl:=hrel;go_wp2_with (at_builtin;refine tT rfl (.tmp 38) (.tmp 40) rfl rfl w.heap.size _ [] [] rfl (aP.nil _ _) w.heap.size ⟨0,0,0,0,⟨0,0,[]⟩,⟨0,0,[],[]⟩,⟨⟨0,0,[],[]⟩,0,[]⟩,[]⟩ ⟨⟨none,0,0⟩,⟨⟨none,0,0⟩,⟨none,0,0⟩⟩,⟨⟨⟨none,0,0⟩,⟨none,0,0⟩⟩,⟨none,0,0⟩⟩,⟨none,0,0⟩⟩ rfl (bX.new w (dB ⟨⟨none,0,0⟩,⟨⟨none,0,0⟩,⟨none,0,0⟩⟩,⟨⟨⟨none,0,0⟩,⟨none,0,0⟩⟩,⟨none,0,0⟩⟩,⟨none,0,0⟩⟩ ⟨0,0,0,0,⟨0,0,[]⟩,⟨0,0,[],[]⟩,⟨⟨0,0,[],[]⟩,0,[]⟩,[]⟩) 49) ⟨bD.nil _ _,aE.nil _ _,aE.nil _ _,aE.nil _ _,aE.nil _ _,aE.nil _ _,aE.nil _ _⟩ y17 (fE (Nat.le_refl _)) ?_;intro v1 w1 hown1 hg1 hbel1)
    go_end0
    have hb:Below w w w1:=Below.trans ((Below.refl _ _).alloc (Nat.le_refl _) _) hbel1;exact ⟨rfl,.of_below hb,.of_below hb⟩
 · dsimp only at h0 h1 h2 h3 h4;subst h0;go_enter func53,ntmps53
   go_wp2_with fail
   go_loopw [2] (fun i wr=>∃(k:Nat) (cr:Array Value),k≤n∧i=.int .i64 k∧wr.heap[g]? =some (.cells cr 49 (0,0))∧cr.size=c*18∧Hid (∀j,k≤j→j<n→InP wr p g j)∧eP p w wr∧aS zQ w wr) (fun i _=>n-(intOf i).toNat)
   case atStart=>exact ⟨0,cur,by omega,rfl,hg,h3,ħ (fun j _ hj=>h4 j hj),eP.refl _ _,.refl _ _⟩
   case round=>
    obtain ⟨k,cr,hk,rfl,hgr,hcr,HIN,hbw,hkw⟩:=hrel
    (obtain ⟨wk,hwk⟩:∃x,x=wr:=⟨_,rfl⟩);subst hwk
    have HK:=ħ hkw;have HB:=ħ hbw;by_cases hlt:k<n
    · obtain ⟨⟨bP,⟨h1P,h2P⟩,⟨⟨c1P,c2P⟩,c3P⟩,dP⟩,M,hc,hrw⟩:=HIN.out k (Nat.le_refl _) hlt;have hgl:g<wk.heap.size:=(Array.getElem?_eq_some_iff.1 hgr).1;have HG:=ħ hgr;have HR:=ħ hrw;have HC:=ħ hc;have c6:=hc 6 _ rfl;clear hgr hkw hbw hrw hc;go_wp2_with fail
      refine (E7 bP p _ HR.out.b HR.out.bn).mono ?_;rintro e w5 ⟨rfl,hb5,hk5⟩;have HK5:Hid (aS zQ wk w5):=ħ (hk5.weak (fun t h=>.inl h));have HG5:=ħ (iD hk5 HG.out y5);have HC5:Hid (∀o,w5.cell? ⟨g,o,none⟩=wk.cell? ⟨g,o,none⟩):=ħ (fun o=>gW hk5 HG.out y5);have hl5:g<w5.heap.size:=(Array.getElem?_eq_some_iff.1 HG5.out).1;have HB5:=ħ (HB.out.trans hb5);have c7:=(HC5.out _).trans (HC.out 7 _ rfl);have c8:=(HC5.out _).trans (HC.out 8 _ rfl);have c9:=(HC5.out _).trans (HC.out 9 _ rfl);have c10:=(HC5.out _).trans (HC.out 10 _ rfl);clear c6 hb5 hk5;go_wp2_with fail
      refine (wZ h1P h2P _ _ p _ (HR.out.h1.keep HK5.out) (HR.out.h2.keep HK5.out) HR.out.h1n HR.out.h2n).mono ?_;rintro e w6 ⟨rfl,hb6,hk6⟩;have HK6:Hid (aS zQ wk w6):=ħ (HK5.out.trans (hk6.weak (fun t h=>.inr (.inl h))));have HG6:=ħ (iD hk6 HG5.out y5);have HC6:Hid (∀o,w6.cell? ⟨g,o,none⟩=wk.cell? ⟨g,o,none⟩):=ħ (fun o=>(gW hk6 HG5.out y5).trans (HC5.out o));have hl6:g<w6.heap.size:=(Array.getElem?_eq_some_iff.1 HG6.out).1;have HB6:=ħ (HB5.out.trans hb6);have c11:=(HC6.out _).trans (HC.out 11 _ rfl);have c12:=(HC6.out _).trans (HC.out 12 _ rfl);have c13:=(HC6.out _).trans (HC.out 13 _ rfl);have c14:=(HC6.out _).trans (HC.out 14 _ rfl);have c15:=(HC6.out _).trans (HC.out 15 _ rfl);have c16:=(HC6.out _).trans (HC.out 16 _ rfl);clear c7 c8 c9 c10 hb6 hk6;go_wp2_with fail
      refine (C8 c1P c2P c3P _ _ _ p _ (HR.out.c1.keep HK6.out) (HR.out.c2.keep HK6.out) (HR.out.c3.keep HK6.out) HR.out.c1n HR.out.c2n HR.out.c3n).mono ?_;rintro e w7 ⟨rfl,hb7,hk7⟩;have HK7:Hid (aS zQ wk w7):=ħ (HK6.out.trans (hk7.weak (fun t h=>.inr (.inl h))));have HG7:=ħ (iD hk7 HG6.out y5);have HC7:Hid (∀o,w7.cell? ⟨g,o,none⟩=wk.cell? ⟨g,o,none⟩):=ħ (fun o=>(gW hk7 HG6.out y5).trans (HC6.out o));have hl7:g<w7.heap.size:=(Array.getElem?_eq_some_iff.1 HG7.out).1;have HB7:=ħ (HB6.out.trans hb7);have c17:=(HC7.out _).trans (HC.out 17 _ rfl);clear c11 c12 c13 c14 c15 c16 hb7 hk7;go_wp2_with fail
      refine (jP dP p _ (HR.out.ds.keep HK7.out) HR.out.dsn).mono ?_;rintro e w8 ⟨rfl,hb8,hk8⟩;have hk8':aS zQ wk w8:=HK7.out.trans (hk8.weak (fun t h=>.inr (.inl h)));have hg8:=iD hk8 HG7.out y5;have hc8:∀o,w8.cell? ⟨g,o,none⟩=wk.cell? ⟨g,o,none⟩:=fun o=>(gW hk8 HG7.out y5).trans (HC7.out o);have hl8:g<w8.heap.size:=(Array.getElem?_eq_some_iff.1 hg8).1;have hb8':=HB7.out.trans hb8
      have hth:w8.there g (k*18) 18:=fun j hj=>by
       refine ⟨by simp [World.cell?,hg8,show k*18+j<cr.size by omega],by simp [World.frozen?,hg8]⟩
      have HTH:=ħ hth;obtain ⟨c',e1,e2⟩:=nK [.int .i64 (-9),z0,z0,z0,z0,z0,n0,z0,z0,n0,n0,z0,z0,n0,n0,z0,n0,n0] (k*18) w8 cr hg8;have hk9:=nL [.int .i64 (-9),z0,z0,z0,z0,z0,n0,z0,z0,n0,n0,z0,z0,n0,n0,z0,n0,n0] (k*18) w8 cr hg8
      have hin:∀j,k+1≤j→j<n→InP (w8.setCells g (k*18) [.int .i64 (-9),z0,z0,z0,z0,z0,n0,z0,z0,n0,n0,z0,z0,n0,n0,z0,n0,n0]) p g j:=fun j hj1 hj2=>by
       refine (HIN.out j y2 hj2).other (hk8'.trans (hk9.weak (fun t h=>.inr (.inr h)))) (fun r hr=>?_);rw [mQ _ _ _ (.inr (by simp only [List.length_cons,List.length_nil];omega))];exact hc8 _
      have hb9:=eP.setCells (b:=g) hgB [.int .i64 (-9),z0,z0,z0,z0,z0,n0,z0,z0,n0,n0,z0,z0,n0,n0,z0,n0,n0] (k*18) _ _ hb8';refine nm (w8.setCells g (k*18) [.int .i64 (-9),z0,z0,z0,z0,z0,n0,z0,z0,n0,n0,z0,z0,n0,n0,z0,n0,n0]) fun W9 hW9=>?_;have HW9:=ħ hW9;rw [←hW9] at e1 hk9 hin hb9;have HE1:=ħ e1;have HE2:=ħ e2;have HK9:=ħ (HK.out.trans (hk8'.trans (hk9.weak (fun t h=>.inr (.inr h)))));have HI9:=ħ hin;have HB9:=ħ hb9;clear c17 hb8 hk8 hk8' hg8 hc8 hb8' hth e1 e2 hk9 hin hb9 hW9 HG HR HC HK5 HG5 HC5 HK6 HG6 HC6 HK7 HG7 HC7 HB5 HB6 HB7 hl5 hl6 hl7;go_upto_region 7 with fail
      refine wp_region_list ?_;simp only [List.toList_toArray]
      iterate 4 (refine pl ?_)
      refine wpList_store_mid rfl 49 _ _ rfl g (k*18) #[.int .i64 (-9),z0,z0,z0,z0,z0,n0,z0,z0,n0,n0,z0,z0,n0,n0,z0,n0,n0] y9 y9 HTH.out y8 y16 ?_;refine sp ?_;refine wpList_nil ?_
      try simp only [List.toList_toArray]
      rw [←HW9.out];go_wp2_with fail
      (refine rnd ?_;exact ⟨k+1,c',by omega,by go_num,HE1.out,by (rw [HE2.out];exact hcr),HI9,HB9.out,HK9.out⟩)
    · have hsz:=hbw.size;have hgl:g<wk.heap.size:=(Array.getElem?_eq_some_iff.1 hgr).1;have hgr2:(wk.alloc (.cells c18 49)).heap[g]? =some (.cells cr 49 (0,0)):=(((Below.refl wk.heap.size wk).alloc (Nat.le_refl _) _).block g hgl).trans hgr;have HG2:=ħ hgr2;have HBX:=ħ (bX.new wk c18 49);clear hgr hgr2 hkw hbw;go_wp2_with (at_builtin;refine uM rfl (.tmp 38) (.tmp 40) rfl p g n c cr rfl HG2.out hcr h1 h2 hgB y2 _ c18 rfl y5 rfl (fun j u hu=>HBX.out.2 j u hu) ?_;intro v1 w1 hb1 hk1)
      go_end0
      exact ⟨rfl,(HB.out.trans (.of_below (aB (Below.refl _ _)))).trans hb1,HK.out.trans (aS.trans (.of_below (aB (Below.refl _ _))) (hk1.weak (fun t h=>.inr (.inr h))))⟩
theorem yT.prot {w:World} {B:Nat} {P:bQ} {p:Nat→Prop} (h:yT w B P) (hp:∀g,B≤g→g<w.heap.size→¬p g):uO w p P:=
 ⟨h.b.prot hp,h.bn,h.h1.prot hp,h.h1n,h.h2.prot hp,h.h2n,h.c1.prot hp,h.c1n,h.c2.prot hp,h.c2n,h.c3.prot hp,h.c3n,h.ds.prot hp,h.dsn⟩
end Go.Proofs.YtgfakefcmbpboaaGreat
