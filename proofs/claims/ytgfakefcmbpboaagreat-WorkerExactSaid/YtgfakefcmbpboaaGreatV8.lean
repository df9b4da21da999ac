/- Part 8 of what WorkerExact leans on. No conditions. -/
import Derived.Test.YtgfakefcmbpboaaGreatV7
namespace Go.Proofs.YtgfakefcmbpboaaGreat
set_option linter.all false
set_option maxRecDepth 100000
set_option maxHeartbeats 64000000
open _root_.Go.Proofs.Tryz Go.RowKit
open Tok
theorem Cg:(prog.info? 49).map (fun i=>(i.zero,i.size,i.bytes))=some (some (.agg c18),18,256):=by kernel_rfl
theorem Ad (w:World) (B:Nat) (v:Value) (n:Nat) (xs:List Value) (hown:w.ownsRow B 49 18 v n xs) (vb off m c:Nat) (e:List Value) (hm:e.length=m*18) (hv:∀j u,e[j]? =some u→w.cell? ⟨vb,off+j,none⟩=some u) (h1e:∀u∈e,u.oneCell'=true) (hn:n+m≤1000000000) (hB:B≤w.heap.size) :
 ∃v' w',(Builtin.append_ #[68,68] 68 #[v,.slice (some ⟨vb,off,none⟩) m c]).run prog w=.ok v' w'∧w'.ownsRow B 49 18 v' (n+m) (xs ++ e)∧w.grownBy w' v.ownBlock∧Below B w w'∧(v'.ownBlock=v.ownBlock∨v'.ownBlock=some w.heap.size):=by
 obtain ⟨i0,hi,hz,hz1,hz2⟩:=info_parts Cg
 obtain ⟨v',w',hrun,h2,h3,_,h5⟩:=run_append_own_at (P:=prog) w B 68 68 49 i0 _ 18 256 underlying68 hi hz hz1 hz2 rfl y2 v n xs hown ⟨vb,off,none⟩ m c e hm
  y53 h1e y59 y2 hB
 exact ⟨v',w',hrun,h2,h3,⟨h3.os,h3.tape,h3.output,h3.size,fun k hk=>h3.block k y2 (fun e=>by have:=(bV hown k e.symm).1;omega)⟩,h5⟩
structure dS (w:World) (B:Nat) (P:bQ) (M:aY):Prop where
 b:bD w B P.b.v M.b.tx
 h1:aE w B P.h.b.v M.h.ba
 h2:aE w B P.h.p.v M.h.pa
 c1:aE w B P.c.h.b.v M.c.h.ba
 c2:aE w B P.c.h.p.v M.c.h.pa
 c3:aE w B P.c.s.v M.c.si
 ds:aE w B P.ds.v M.ds
theorem dS.up {w w':World} {B:Nat} {P M} (h:dS w B P M) (hb:Below w w w'):dS w' B P M:=⟨h.b.up hb,h.h1.up hb,h.h2.up hb,h.c1.up hb,h.c2.up hb,h.c3.up hb,h.ds.up hb⟩
theorem dS.mono {w:World} {B B':Nat} {P M} (h:dS w B P M) (hB:B'≤B):dS w B' P M:=⟨h.b.mono hB,h.h1.mono hB,h.h2.mono hB,h.c1.mono hB,h.c2.mono hB,h.c3.mono hB,h.ds.mono hB⟩
theorem dS.low {w:World} {B b o:Nat} {u:Value} {P M} (h:dS w B P M) (hp:b<B):dS (w.setCell ⟨b,o,none⟩ u) B P M:=⟨h.b.set3 hp u,h.h1.low hp u,h.h2.low hp u,h.c1.low hp u,h.c2.low hp u,h.c3.low hp u,h.ds.low hp u⟩
theorem dS.grownT {w w':World} {B B' n:Nat} {v:Value} {xs:List Value} {P M} (h:dS w B P M) (hv:w.ownsRow B' 49 18 v n xs) (hg:w.grownBy w' v.ownBlock):dS w' B P M:=⟨bT h.b hv y5 hg,bT h.h1 hv y5 hg,bT h.h2 hv y5 hg,bT h.c1 hv y5 hg,bT h.c2 hv y5 hg,bT h.c3 hv y5 hg,bT h.ds hv y5 hg⟩
def cT:rQ aY bQ where
 t:=49
 k:=18
 enc:=fun M P=>dB P M
 inner:=fun w B P M=>dS w B P M
 k0:=by omega
 len:=fun _ _=>rfl
 one:=fun h u hu=>by
  simp only [dB,List.mem_cons,List.not_mem_nil,or_false] at hu;rcases hu with rfl|rfl|rfl|rfl|rfl|rfl|rfl|rfl|rfl|rfl|rfl|rfl|rfl|rfl|rfl|rfl|rfl|rfl<;>rfl
 up:=fun h hb=>h.up hb
 mono:=fun h hB=>h.mono hB
 low:=fun h hp=>h.low hp
 grown:=fun h hv hg=>h.grownT hv hg
def dH (w:World) (B:Nat) (v:Value) (l:List aY):Prop:=∃ps,aP cT w B v ps l
theorem dH.up {w w':World} {B:Nat} {v:Value} {l:List aY} (h:dH w B v l) (hb:Below w w w'):dH w' B v l:=let ⟨ps,h⟩:=h;⟨ps,h.up hb⟩
theorem dH.mono {w:World} {B B':Nat} {v:Value} {l:List aY} (h:dH w B v l) (hB:B'≤B):dH w B' v l:=let ⟨ps,h⟩:=h;⟨ps,h.mono hB⟩
theorem dH.nil (w:World) (B:Nat):dH w B (.slice none 0 0) []:=⟨[],aP.nil _ _⟩
structure EK (M:aY):Prop where
 b:M.b.tx.length≤800000000
 h1:M.h.ba.length≤800000000
 h2:M.h.pa.length≤800000000
 c1:M.c.h.ba.length≤800000000
 c2:M.c.h.pa.length≤800000000
 c3:M.c.si.length≤800000000
 ds:M.ds.length≤800000000
def CL (l:List aY):Prop:=l.length≤800000000∧∀x∈l,EK x
theorem aE.slR {w:World} {B:Nat} {s:SlP} {l:List Int} (h:aE w B s.v l) (hl:l.length≤800000000):aL w s.A s.n l:=by
 obtain ⟨A,c,e,hi,_⟩:=h.ints y2;unfold SlP.v at e;injection e with e1 e2 e3;rw [e1,e2];exact hi
theorem bD.slR {w:World} {B:Nat} {s:SlP} {l:List TxD} (h:bD w B s.v l) (hl:l.length≤800000000):bZ w s.A s.n l:=by
 obtain ⟨A,c,e,hi,_⟩:=h.txs y2;unfold SlP.v at e;injection e with e1 e2 e3;rw [e1,e2];exact hi
theorem dS.msg {w:World} {B:Nat} {P M} (h:dS w B P M) (hs:EK M):eO w P M:=
 ⟨h.b.slR hs.b,⟨h.h1.slR hs.h1,h.h2.slR hs.h2⟩,⟨⟨h.c1.slR hs.c1,h.c2.slR hs.c2⟩,h.c3.slR hs.c3⟩,h.ds.slR hs.ds⟩
def mth (l:List aY) (i:Nat):aY:=l.getD i default
def eJ (w:World) (A:Option Addr) (n:Nat) (l:List aY):Prop:=
 l.length=n∧n≤9223372036854775807∧(0<n→∃b off,A=some ⟨b,off,none⟩∧b<w.heap.size∧∀j,j<n→∃P:bQ,(∀r u,(dB P (mth l j))[r]? =some u→w.cell? ⟨b,off+j*18+r,none⟩=some u)∧eO w P (mth l j))
theorem eJ.up {w w':World} {A n l} (h:eJ w A n l) (hb:Below w w w'):eJ w' A n l:=by
 obtain ⟨h1,h2,h3⟩:=h;refine ⟨h1,h2,fun hn=>?_⟩;obtain ⟨b,off,e,hlt,hc⟩:=h3 hn;refine ⟨b,off,e,Nat.lt_of_lt_of_le hlt hb.size,fun j hj=>?_⟩;obtain ⟨P,g0,g1⟩:=hc j hj;exact ⟨P,fun r u hu=>((aK hb).1 _ _ hlt).trans (g0 r u hu),g1.up hb⟩
theorem eJ.nil (w:World):eJ w none 0 []:=⟨rfl,by omega,fun h=>absurd h y2⟩
theorem dH.msgs {w:World} {B:Nat} {v:Value} {l:List aY} (h:dH w B v l) (hs:CL l):∃A c,v=.slice A l.length c∧eJ w A l.length l∧l.length≤c∧c≤9223372036854775807:=by
 obtain ⟨ps,h⟩:=h;obtain ⟨A,c,e,h1,h2,h3⟩:=h.read;refine ⟨A,c,e,⟨rfl,by have:=hs.1;omega,fun h0=>?_⟩,h1,by simpa [maxLen] using h2⟩;obtain ⟨b,eA,hB,hb,hc⟩:=h3 h0;refine ⟨b,0,eA,hb,fun j hj=>⟨ps.getD j default,fun r u hu=>hc j hj r u hu,?_⟩⟩;have hin:dS w B (ps.getD j default) (l.getD j default):=h.2.2 j hj;exact hin.msg (hs.2 _ (cB hj))
theorem Dw (w:World) (B:Nat) (v:Value) (ps:List bQ) (l:List aY) (hown:aP cT w B v ps l) (g:Nat) (x:aY) (p:bQ) (hbx:bX w g (dB p x)) (hin:dS w B p x) (hlen:l.length≤800000000) (hB:B≤w.heap.size) :
 ∃v' w',(Builtin.append_ #[68,68] 68 #[v,.slice (some ⟨g,0,none⟩) 1 1]).run prog w=.ok v' w'∧aP cT w' B v' (ps ++ [p]) (l ++ [x])∧w.grownBy w' v.ownBlock∧Below B w w':=by
 obtain ⟨v',w',hrun,h2,h3,h4,h5⟩:=Ad w B v l.length (aO cT l ps) hown.1 g 0 1 1 (dB p x) rfl (fun r u hu=>by rw [Nat.zero_add];exact hbx.2 r u hu) (cT.one (w:=w) (B:=B) (p:=p) (x:=x) hin) y2 hB;exact ⟨v',w',hrun,hown.snoc hin h2 h3,h3,h4⟩
theorem tT {w:World} {ops:Array Oper} {rest:List Oper} {o:Oper} {a:Act} {Q:Exit→Act→World→Prop} (hgd:o.guard=none) (s x:Operand)
 (ho:o.op=.call {callee:=.builtin .append,args:=#[s,x],argTypes:=#[68,68]}) (hty:o.type=68) (B:Nat) (v:Value) (ps:List bQ) (l:List aY) (hs:a.eval s=v) (hown:aP cT w B v ps l) (g:Nat) (y:aY) (p:bQ) (hx:a.eval x=.slice (some ⟨g,0,none⟩) 1 1)
 (hbx:bX w g (dB p y)) (hin:dS w B p y) (hlen:l.length≤800000000) (hB:B≤w.heap.size)
 (h:∀v' w',aP cT w' B v' (ps ++ [p]) (l ++ [y])→w.grownBy w' v.ownBlock→Below B w w'→wpList prog ops Q rest (a.put o.dst v') w'):wpList prog ops Q (o :: rest) a w:=by
 obtain ⟨v',w',hrun,h2,h3,h4⟩:=Dw w B v ps l hown g y p hbx hin hlen hB;exact Lib.wpList_append_run w hgd s x _ _ ho _ _ hs hx _ _ y35 (h v' w' h2 h3 h4)
theorem uF {ops:Array Oper} {o:Oper} {a:Act} {w:World} {K:Act→World→Prop} {Q:Exit→Act→World→Prop} {E:Prop} (hg:o.guard=none) (s x:Operand)
 (ho:o.op=.call {callee:=.builtin .append,args:=#[s,x],argTypes:=#[68,68]}) (hty:o.type=68) (B:Nat) (v:Value) (ps:List bQ) (l:List aY) (hs:a.eval s=v) (hown:aP cT w B v ps l) (g:Nat) (y:aY) (p:bQ) (hx:a.eval x=.slice (some ⟨g,0,none⟩) 1 1)
 (hbx:bX w g (dB p y)) (hin:dS w B p y) (hlen:l.length≤800000000) (hB:B≤w.heap.size)
 (h:∀v' w',aP cT w' B v' (ps ++ [p]) (l ++ [y])→w.grownBy w' v.ownBlock→Below B w w'→K (a.put o.dst v') w'):if Region.wanted o (yielded ops a.tmps)=true then Oper.wp prog o a w K Q else E:=by
 obtain ⟨v',w',hrun,h2,h3,h4⟩:=Dw w B v ps l hown g y p hbx hin hlen hB;exact DD hg s x _ _ ho v _ hs hx v' w' y35 (h v' w' h2 h3 h4)
def aS (S:TypeId→Prop) (w w':World):Prop:=∀(k:Nat) (cur:Array Value) (t:TypeId),w.heap[k]? =some (.cells cur t (0,0))→∃cur':Array Value,w'.heap[k]? =some (.cells cur' t (0,0))∧cur'.size=cur.size∧(¬S t→cur'=cur)
theorem aS.refl (S:TypeId→Prop) (w:World):aS S w w:=fun k cur t h=>⟨cur,h,rfl,fun _=>rfl⟩
theorem aS.trans {S:TypeId→Prop} {a b c:World} (h:aS S a b) (k:aS S b c):aS S a c:=fun i cur t hc=>by
 obtain ⟨c1,h1,h2,h3⟩:=h i cur t hc;obtain ⟨c2,k1,k2,k3⟩:=k i c1 t h1;exact ⟨c2,k1,by omega,fun ht=>by rw [k3 ht,h3 ht]⟩
theorem aS.weak {S S':TypeId→Prop} {a b:World} (h:aS S a b) (hs:∀t,S t→S' t):aS S' a b:=fun i cur t hc=>by
 obtain ⟨c1,h1,h2,h3⟩:=h i cur t hc;exact ⟨c1,h1,h2,fun ht=>h3 (fun hh=>ht (hs t hh))⟩
theorem aS.of_below {S:TypeId→Prop} {w w':World} (h:Below w w w'):aS S w w':=fun k cur t hc=>⟨cur,(h.block k (Array.getElem?_eq_some_iff.1 hc).1).trans hc,rfl,fun _=>rfl⟩
theorem mJ {B:Nat} {w x:World} {b o:Nat} {v:Value} (h:Below B w x) (hp:B≤b):Below B w (x.setCell ⟨b,o,none⟩ v):=h.setCell hp v
theorem cC {w:World} {g o:Nat} {cur:Array Value} {t:TypeId} {v:Value} (hg:w.heap[g]? =some (.cells cur t (0,0))):(w.setCell ⟨g,o,none⟩ v).heap[g]? =some (.cells (cur.setIfInBounds o v) t (0,0)):=by simp [World.setCell,Array.getElem?_modify,hg]
theorem aS.set {S:TypeId→Prop} {w:World} {g o:Nat} {cur:Array Value} {T:TypeId} {v:Value} (hg:w.heap[g]? =some (.cells cur T (0,0))) (hS:S T):aS S w (w.setCell ⟨g,o,none⟩ v):=fun k c t hc=>by
 by_cases h:k=g
 · subst h;rw [hg] at hc;injection hc with hc;injection hc with e1 e2 _;subst e1;subst e2;exact ⟨cur.setIfInBounds o v,cC hg,by simp,fun ht=>absurd hS ht⟩
 · exact ⟨c,(Below.heap_setCell _ _ _ _ h).trans hc,rfl,fun _=>rfl⟩
def lN (w:World) (B:Nat) (t:TypeId) (k:Nat) (s:SlP):Prop:=s.v=.slice none 0 0∨∃g cur,s.A=some ⟨g,0,none⟩∧B≤g∧w.heap[g]? =some (.cells cur t (0,0))∧s.n≤s.c∧s.c≤maxLen∧cur.size=s.c*k
theorem gS {w:World} {B k n:Nat} {t:TypeId} {s:SlP} {xs:List Value} (h:w.ownsRow B t k s.v n xs):lN w B t k s:=by
 rcases h.2 with ⟨e,_⟩|⟨g,cap,cur,e,hb,hg,h1,h2,h3,_⟩
 · exact .inl e
 · unfold SlP.v at e;injection e with e1 e2 e3;exact .inr ⟨g,cur,e1,hb,hg,by omega,by omega,by rw [h3,e3]⟩
theorem lN.keep {S:TypeId→Prop} {w w':World} {B k:Nat} {t:TypeId} {s:SlP} (h:lN w B t k s) (hk:aS S w w'):lN w' B t k s:=by
 rcases h with h|⟨g,cur,e,hb,hg,h1,h2,h3⟩
 · exact .inl h
 · obtain ⟨c',k1,k2,_⟩:=hk g cur _ hg;exact .inr ⟨g,c',e,hb,k1,h1,h2,by omega⟩
theorem BT:(prog.info? 3).map (fun i=>(i.zero,i.size,i.bytes))=some (some (.int .i64 0),1,8):=by kernel_rfl
theorem Cw (w:World) (B g n cap:Nat) (cur:Array Value) (ty:TypeId) (hg:w.heap[g]? =some (.cells cur 3 (0,0))) (hcs:cur.size=cap*1) (hnc:n≤cap) (hcm:cap≤maxLen) (hB:B≤g) (hn:n≤1000000000) (vb:Nat) (e:List Value) (he:e.length=1) (h1e:∀u∈e,u.oneCell'=true) (hx:∀j u,e[j]? =some u→w.cell? ⟨vb,j,none⟩=some u) :
 ∃v' w',(Builtin.append_ #[25,25] ty #[.slice (some ⟨g,0,none⟩) n cap,.slice (some ⟨vb,0,none⟩) 1 1]).run prog w=.ok v' w'∧Below B w w'∧aS (·=3) w w':=by
 obtain ⟨i0,hi,hz,hz1,hz2⟩:=info_parts BT
 have hnews:∀j u,e[j]? =some u→w.cell? ((⟨vb,0,none⟩:Addr).add j)=some u:=fun j u hu=>by
  rw [Addr.add_lit,Nat.zero_add];exact hx j u hu
 have hgl:g<w.heap.size:=(Array.getElem?_eq_some_iff.1 hg).1;by_cases hroom:n+1≤cap
 · have hr:=run_append_room (P:=prog) w 25 ty 3 i0 underlying25 hi g n cap cur hg ⟨vb,0,none⟩ 1 1 e y31 hnews h1e hroom y31;refine ⟨_,_,hr,⟨rfl,rfl,rfl,by simp,fun k hk=>setRow_other w g k _ y2⟩,fun k c t hc=>?_⟩;by_cases h:k=g
   · subst h;rw [hg] at hc;injection hc with hc;injection hc with e1 e2 _;subst e1;subst e2;refine ⟨_,setRow_heap w k cur _ _ _ hg,?_,fun ht=>absurd rfl ht⟩;rw [hz1];simp only [List.size_toArray,List.length_append,List.length_take,List.length_drop,he,Array.length_toList];omega
   · exact ⟨c,(setRow_other w g k _ h).trans hc,rfl,fun _=>rfl⟩
 · have hnn:n=cap:=by omega
   have hold:∀j v,(cur.toList.take (n*1))[j]? =some v→w.cell? ((⟨g,0,none⟩:Addr).add j)=some v:=fun j v hj=>by
    rw [Addr.add_lit,Nat.zero_add];rw [List.getElem?_take] at hj;split at hj
    · simp [World.cell?,hg];simpa using hj
    · cases hj
   have hr:=run_append_grow (P:=prog) w 25 ty 3 i0 _ underlying25 hi hz ⟨g,0,none⟩ n cap (cur.toList.take (n*1)) y76 hold ⟨vb,0,none⟩ 1 1 e y31 hnews y2 y58 y39;have hb:Below w w (w.drew.alloc (.cells ((cur.toList.take (n*1)).toArray ++ e.toArray ++ Builtin.zeroCells (.int .i64 0:Value).cells (grownCap w (n+1) cap 3-(n+1))) 3)):=aB (aM (Below.refl _ _));exact ⟨_,_,hr,hb.mono y2,.of_below hb⟩
theorem Ag {w:World} {ops:Array Oper} {rest:List Oper} {o:Oper} {a:Act} {Q:Exit→Act→World→Prop} (hgd:o.guard=none) (s x:Operand)
 (ho:o.op=.call {callee:=.builtin .append,args:=#[s,x],argTypes:=#[25,25]})
 (B g n cap:Nat) (cur:Array Value) (hs:a.eval s=.slice (some ⟨g,0,none⟩) n cap) (hg:w.heap[g]? =some (.cells cur 3 (0,0))) (hcs:cur.size=cap*1) (hnc:n≤cap) (hcm:cap≤maxLen) (hB:B≤g) (hn:n≤1000000000) (vb:Nat) (e:List Value) (he:e.length=1) (h1e:∀u∈e,u.oneCell'=true) (hx:a.eval x=.slice (some ⟨vb,0,none⟩) 1 1) (hc:∀j u,e[j]? =some u→w.cell? ⟨vb,j,none⟩=some u)
 (h:∀v' w',Below B w w'→aS (·=3) w w'→wpList prog ops Q rest (a.put o.dst v') w'):wpList prog ops Q (o :: rest) a w:=by
 obtain ⟨v',w',hrun,hb,hk⟩:=Cw w B g n cap cur o.type hg hcs hnc hcm hB hn vb e he h1e hc;exact Lib.wpList_append_run w hgd s x _ _ ho _ _ hs hx _ _ hrun (h v' w' hb hk)
theorem C5:(prog.info? 41).map (fun i=>(i.zero,i.size,i.bytes))=some (some (.agg #[z0,z0,.string ⟨#[]⟩,.string ⟨#[]⟩]),4,48):=by kernel_rfl
theorem Dv (w:World) (B g n cap:Nat) (cur:Array Value) (ty:TypeId) (hg:w.heap[g]? =some (.cells cur 41 (0,0))) (hcs:cur.size=cap*4) (hnc:n≤cap) (hcm:cap≤maxLen) (hB:B≤g) (hn:n≤1000000000) (vb:Nat) (e:List Value) (he:e.length=4) (h1e:∀u∈e,u.oneCell'=true) (hx:∀j u,e[j]? =some u→w.cell? ⟨vb,j,none⟩=some u) :
 ∃v' w',(Builtin.append_ #[22,22] ty #[.slice (some ⟨g,0,none⟩) n cap,.slice (some ⟨vb,0,none⟩) 1 1]).run prog w=.ok v' w'∧Below B w w'∧aS (·=41) w w':=by
 obtain ⟨i0,hi,hz,hz1,hz2⟩:=info_parts C5
 have hnews:∀j u,e[j]? =some u→w.cell? ((⟨vb,0,none⟩:Addr).add j)=some u:=fun j u hu=>by
  rw [Addr.add_lit,Nat.zero_add];exact hx j u hu
 have hgl:g<w.heap.size:=(Array.getElem?_eq_some_iff.1 hg).1;by_cases hroom:n+1≤cap
 · have hr:=run_append_room (P:=prog) w 22 ty 41 i0 underlying22 hi g n cap cur hg ⟨vb,0,none⟩ 1 1 e y31 hnews h1e hroom y31;refine ⟨_,_,hr,⟨rfl,rfl,rfl,by simp,fun k hk=>setRow_other w g k _ y2⟩,fun k c t hc=>?_⟩;by_cases h:k=g
   · subst h;rw [hg] at hc;injection hc with hc;injection hc with e1 e2 _;subst e1;subst e2;refine ⟨_,setRow_heap w k cur _ _ _ hg,?_,fun ht=>absurd rfl ht⟩;rw [hz1];simp only [List.size_toArray,List.length_append,List.length_take,List.length_drop,he,Array.length_toList];omega
   · exact ⟨c,(setRow_other w g k _ h).trans hc,rfl,fun _=>rfl⟩
 · have hnn:n=cap:=by omega
   have hold:∀j v,(cur.toList.take (n*4))[j]? =some v→w.cell? ((⟨g,0,none⟩:Addr).add j)=some v:=fun j v hj=>by
    rw [Addr.add_lit,Nat.zero_add];rw [List.getElem?_take] at hj;split at hj
    · simp [World.cell?,hg];simpa using hj
    · cases hj
   have hr:=run_append_grow (P:=prog) w 22 ty 41 i0 _ underlying22 hi hz ⟨g,0,none⟩ n cap (cur.toList.take (n*4)) y76 hold ⟨vb,0,none⟩ 1 1 e y31 hnews y2 y58 y39;have hb:Below w w (w.drew.alloc (.cells ((cur.toList.take (n*4)).toArray ++ e.toArray ++ Builtin.zeroCells (.agg #[z0,z0,.string ⟨#[]⟩,.string ⟨#[]⟩]:Value).cells (grownCap w (n+1) cap 41-(n+1))) 41)):=aB (aM (Below.refl _ _));exact ⟨_,_,hr,hb.mono y2,.of_below hb⟩
theorem By {w:World} {ops:Array Oper} {rest:List Oper} {o:Oper} {a:Act} {Q:Exit→Act→World→Prop} (hgd:o.guard=none) (s x:Operand)
 (ho:o.op=.call {callee:=.builtin .append,args:=#[s,x],argTypes:=#[22,22]})
 (B g n cap:Nat) (cur:Array Value) (hs:a.eval s=.slice (some ⟨g,0,none⟩) n cap) (hg:w.heap[g]? =some (.cells cur 41 (0,0))) (hcs:cur.size=cap*4) (hnc:n≤cap) (hcm:cap≤maxLen) (hB:B≤g) (hn:n≤1000000000) (vb:Nat) (e:List Value) (he:e.length=4) (h1e:∀u∈e,u.oneCell'=true) (hx:a.eval x=.slice (some ⟨vb,0,none⟩) 1 1) (hc:∀j u,e[j]? =some u→w.cell? ⟨vb,j,none⟩=some u)
 (h:∀v' w',Below B w w'→aS (·=41) w w'→wpList prog ops Q rest (a.put o.dst v') w'):wpList prog ops Q (o :: rest) a w:=by
 obtain ⟨v',w',hrun,hb,hk⟩:=Dv w B g n cap cur o.type hg hcs hnc hcm hB hn vb e he h1e hc;exact Lib.wpList_append_run w hgd s x _ _ ho _ _ hs hx _ _ hrun (h v' w' hb hk)
theorem gA (s:SlP) (B:Nat) (w:World) (hr:lN w B 3 1 s) (hn:s.n≤1000000) (hB:B≤w.heap.size) :
 Calls prog 101 #[s] w fun e w'=>e=.returned (.tuple #[])∧Below B w w'∧aS (·=3) w w':=by
 obtain ⟨A,n,c⟩:=s;dsimp only at hn ⊢;rcases hr with h|⟨g,cur,h0,hgB,hg,h1,h2,h3⟩
 · unfold SlP.v at h;injection h with e1 e2 e3;subst e1;subst e2;subst e3;go_enter func101,ntmps101
   go_wp2_with fail
   go_loop [2] (fun i=>i=.int .i64 0) (fun _=>0)
   case atStart=>rfl
   case round=>
    obtain rfl:=hrel;go_wp2_with (at_builtin;refine fJ rfl (.tmp 12) (.tmp 13) rfl w.heap.size _ _ rfl (aE.nil _ _) _ 5 rfl (eH _ _ _) y17 (fE (Nat.le_refl _)) ?_;intro v1 w1 hown1 hg1 hbel1 hat1)
    go_end0
    have hb:Below w w w1:=Below.trans ((Below.refl _ _).alloc (Nat.le_refl _) _) hbel1;exact ⟨rfl,hb.mono hB,.of_below hb⟩
 · dsimp only at h0 h1 h2 h3;subst h0;go_enter func101,ntmps101
   go_wp2_with fail
   go_loopw [2] (fun i wr=>∃(k:Nat) (cr:Array Value),k≤n∧i=.int .i64 k∧wr.heap[g]? =some (.cells cr 3 (0,0))∧cr.size=c*1∧Below B w wr∧aS (·=3) w wr) (fun i _=>n-(intOf i).toNat)
   case atStart=>exact ⟨0,cur,by omega,rfl,hg,h3,Below.refl _ _,.refl _ _⟩
   case round=>
    obtain ⟨k,cr,hk,rfl,hgr,hcr,hbw,hkw⟩:=hrel
    (obtain ⟨wk,hwk⟩:∃x,x=wr:=⟨_,rfl⟩);subst hwk
    have HG:=ħ hgr;have HK:=ħ hkw;have HB:=ħ hbw;by_cases hlt:k<n
    · obtain ⟨u,hu⟩:∃u,wk.cell? ⟨g,k,none⟩=some u:=⟨cr[k]'y2,by simp [World.cell?,hgr,show k<cr.size by omega]⟩;have hf:wk.frozen? ⟨g,k,none⟩=false:=by simp [World.frozen?,hgr]
      have hgl:g<wk.heap.size:=(Array.getElem?_eq_some_iff.1 hgr).1;clear hgr hkw hbw;go_wp2_with fail
      (refine rnd ?_;exact ⟨k+1,cr.setIfInBounds k (.int .i64 (-99)),by omega,by go_num,cC HG.out,by simp;omega,mJ HB.out hgB,HK.out.trans (.set HG.out rfl)⟩)
    · have hsz:=hbw.size;have hgl:g<wk.heap.size:=(Array.getElem?_eq_some_iff.1 hgr).1;have hgr2:(wk.alloc (.cells #[.int .i64 5] 3)).heap[g]? =some (.cells cr 3 (0,0)):=(((Below.refl wk.heap.size wk).alloc (Nat.le_refl _) _).block g hgl).trans hgr;have HG2:=ħ hgr2;clear hgr hgr2 hkw hbw;go_wp2_with (at_builtin;refine Ag rfl (.tmp 12) (.tmp 13) rfl B g n c cr rfl HG2.out hcr h1 h2 hgB y2 _ [.int .i64 5] rfl y16 rfl (fun j u hu=>(by cases j with|zero=>(simp at hu;subst hu;exact eH _ _ _)|succ j=>simp at hu)) ?_;intro v1 w1 hb1 hk1)
      go_end0
      exact ⟨rfl,Below.trans (HB.out.trans (Below.mono (aB (Below.refl _ _)) y2)) hb1,HK.out.trans (aS.trans (.of_below (aB (Below.refl _ _))) hk1)⟩
theorem E1 {B:Nat} {w0 w:World} {g:Nat} {cur:Array Value} {t:TypeId} (hg:w.heap[g]? =some (.cells cur t (0,0))) (hB:Below B w0 w) (hp:B≤g) (o0 o1:Nat) (v0 v1:Value):∃c':Array Value,((w.setCell ⟨g,o0,none⟩ v0).setCell ⟨g,o1,none⟩ v1).heap[g]? =some (.cells c' t (0,0))∧c'.size=cur.size∧aS (·=t) w ((w.setCell ⟨g,o0,none⟩ v0).setCell ⟨g,o1,none⟩ v1)∧Below B w0 ((w.setCell ⟨g,o0,none⟩ v0).setCell ⟨g,o1,none⟩ v1):=
 ⟨_,(cC (cC hg)),by simp,((aS.set (S:=(·=t)) hg rfl).trans (aS.set (S:=(·=t)) (cC hg) rfl)),(mJ (mJ hB hp) hp)⟩
theorem BU {B:Nat} {w0 w:World} {g:Nat} {cur:Array Value} {t:TypeId} (hg:w.heap[g]? =some (.cells cur t (0,0))) (hB:Below B w0 w) (hp:B≤g) (o0 o1 o2 o3:Nat) (v0 v1 v2 v3:Value):∃c':Array Value,((((w.setCell ⟨g,o0,none⟩ v0).setCell ⟨g,o1,none⟩ v1).setCell ⟨g,o2,none⟩ v2).setCell ⟨g,o3,none⟩ v3).heap[g]? =some (.cells c' t (0,0))∧c'.size=cur.size∧aS (·=t) w ((((w.setCell ⟨g,o0,none⟩ v0).setCell ⟨g,o1,none⟩ v1).setCell ⟨g,o2,none⟩ v2).setCell ⟨g,o3,none⟩ v3)∧Below B w0 ((((w.setCell ⟨g,o0,none⟩ v0).setCell ⟨g,o1,none⟩ v1).setCell ⟨g,o2,none⟩ v2).setCell ⟨g,o3,none⟩ v3):=
 ⟨_,(cC (cC (cC (cC hg)))),by simp,((aS.set (S:=(·=t)) hg rfl).trans ((aS.set (S:=(·=t)) (cC hg) rfl).trans ((aS.set (S:=(·=t)) (cC (cC hg)) rfl).trans (aS.set (S:=(·=t)) (cC (cC (cC hg))) rfl)))),(mJ (mJ (mJ (mJ hB hp) hp) hp) hp)⟩
theorem oC (s:SlP) (B:Nat) (w:World) (hr:lN w B 41 4 s) (hn:s.n≤1000000) (hB:B≤w.heap.size) :
 Calls prog 45 #[s] w fun e w'=>e=.returned (.tuple #[])∧Below B w w'∧aS (·=41) w w':=by
 obtain ⟨A,n,c⟩:=s;dsimp only at hn ⊢;rcases hr with h|⟨g,cur,h0,hgB,hg,h1,h2,h3⟩
 · unfold SlP.v at h;injection h with e1 e2 e3;subst e1;subst e2;subst e3;go_enter func45,ntmps45
   go_wp2_with fail
   go_loop [2] (fun i=>i=.int .i64 0) (fun _=>0)
   case atStart=>rfl
   case round=>
    obtain rfl:=hrel;go_wp2_with (at_builtin;refine nF rfl (.tmp 13) (.tmp 15) rfl rfl w.heap.size _ _ rfl (bD.nil _ _) w.heap.size 0 1 1 [⟨0,0,⟨#[]⟩,⟨#[]⟩⟩] rfl rfl (fun j u hu=>(by rw [Nat.zero_add];exact (bX.new w [z0,z0,.string ⟨#[]⟩,.string ⟨#[]⟩] 41).2 j u y64)) y17 (fE (Nat.le_refl _)) ?_;intro v1 w1 hown1 hg1 hbel1 hat1)
    go_end0
    have hb:Below w w w1:=Below.trans ((Below.refl _ _).alloc (Nat.le_refl _) _) hbel1;exact ⟨rfl,hb.mono hB,.of_below hb⟩
 · dsimp only at h0 h1 h2 h3;subst h0;go_enter func45,ntmps45
   go_wp2_with fail
   go_loopw [2] (fun i wr=>∃(k:Nat) (cr:Array Value),k≤n∧i=.int .i64 k∧wr.heap[g]? =some (.cells cr 41 (0,0))∧cr.size=c*4∧Below B w wr∧aS (·=41) w wr) (fun i _=>n-(intOf i).toNat)
   case atStart=>exact ⟨0,cur,by omega,rfl,hg,h3,Below.refl _ _,.refl _ _⟩
   case round=>
    obtain ⟨k,cr,hk,rfl,hgr,hcr,hbw,hkw⟩:=hrel
    (obtain ⟨wk,hwk⟩:∃x,x=wr:=⟨_,rfl⟩);subst hwk
    have HG:=ħ hgr;have HK:=ħ hkw;have HB:=ħ hbw;by_cases hlt:k<n
    · obtain ⟨u0,hu0⟩:∃u,wk.cell? ⟨g,k*4,none⟩=some u:=⟨cr[k*4]'y2,by simp [World.cell?,hgr,show k*4<cr.size by omega]⟩;obtain ⟨u1,hu1⟩:∃u,wk.cell? ⟨g,k*4+1,none⟩=some u:=⟨cr[k*4+1]'y2,by simp [World.cell?,hgr,show k*4+1<cr.size by omega]⟩;obtain ⟨u2,hu2⟩:∃u,wk.cell? ⟨g,k*4+2,none⟩=some u:=⟨cr[k*4+2]'y2,by simp [World.cell?,hgr,show k*4+2<cr.size by omega]⟩;obtain ⟨u3,hu3⟩:∃u,wk.cell? ⟨g,k*4+3,none⟩=some u:=⟨cr[k*4+3]'y2,by simp [World.cell?,hgr,show k*4+3<cr.size by omega]⟩;have hf:∀o,wk.frozen? ⟨g,o,none⟩=false:=fun o=>by simp [World.frozen?,hgr]
      have hgl:g<wk.heap.size:=(Array.getElem?_eq_some_iff.1 hgr).1;obtain ⟨c',hc1,hc2,hc3,hc4⟩:=BU HG.out HB.out hgB (k*4) (k*4+1) (k*4+2) (k*4+3) (.int .i64 (-9)) (.int .i64 0) (.string ⟨#[]⟩) (.string ⟨#[]⟩);have H1:=ħ hc1;have H2:=ħ hc2;have H3:=ħ hc3;have H4:=ħ hc4;clear hgr hkw hbw hc1 hc2 hc3 hc4;go_wp2_with fail
      (refine rnd ?_;exact ⟨k+1,c',by omega,by go_num,H1.out,by (rw [H2.out];exact hcr),H4.out,HK.out.trans H3.out⟩)
    · have hsz:=hbw.size;have hgl:g<wk.heap.size:=(Array.getElem?_eq_some_iff.1 hgr).1;have hgr2:(wk.alloc (.cells #[z0,z0,.string ⟨#[]⟩,.string ⟨#[]⟩] 41)).heap[g]? =some (.cells cr 41 (0,0)):=(((Below.refl wk.heap.size wk).alloc (Nat.le_refl _) _).block g hgl).trans hgr;have HG2:=ħ hgr2;have HBX:=ħ (bX.new wk [z0,z0,.string ⟨#[]⟩,.string ⟨#[]⟩] 41);clear hgr hgr2 hkw hbw;go_wp2_with (at_builtin;refine By rfl (.tmp 13) (.tmp 15) rfl B g n c cr rfl HG2.out hcr h1 h2 hgB y2 _ [z0,z0,.string ⟨#[]⟩,.string ⟨#[]⟩] rfl y16 rfl (fun j u hu=>HBX.out.2 j u hu) ?_;intro v1 w1 hb1 hk1)
      go_end0
      exact ⟨rfl,Below.trans (HB.out.trans (Below.mono (aB (Below.refl _ _)) y2)) hb1,HK.out.trans (aS.trans (.of_below (aB (Below.refl _ _))) hk1)⟩
end Go.Proofs.YtgfakefcmbpboaaGreat
