/- Part 6 of what WorkerExact leans on. No conditions. -/
import Derived.Test.YtgfakefcmbpboaaGreatV5
namespace Go.Proofs.YtgfakefcmbpboaaGreat
set_option linter.all false
set_option maxRecDepth 100000
set_option maxHeartbeats 64000000
open _root_.Go.Proofs.Tryz Go.RowKit
open Tok
open Go.RowKit
structure rQ (α β:Type) where
 t:TypeId
 k:Nat
 enc:α→β→List Value
 inner:World→Nat→β→α→Prop
 k0:0<k
 len:∀x p,(enc x p).length=k
 one:∀{w B p x},inner w B p x→∀u∈enc x p,u.oneCell'=true
 up:∀{w w' B p x},inner w B p x→Below w w w'→inner w' B p x
 mono:∀{w B B' p x},inner w B p x→B'≤B→inner w B' p x
 low:∀{w B p x} {b o:Nat} {u:Value},inner w B p x→b<B→inner (w.setCell ⟨b,o,none⟩ u) B p x
 grown:∀{w w' B B' p x} {v:Value} {n:Nat} {xs:List Value},inner w B p x→w.ownsRow B' t k v n xs→w.grownBy w' v.ownBlock→inner w' B p x
theorem I2 {k:Nat}:∀(ll:List (List Value)),(∀x∈ll,x.length=k)→∀(j r:Nat),r<k→ll.flatten[j*k+r]? =(ll[j]?).bind (·[r]?)
 | [],_,j,r,_=>by simp
 | x :: ll,h,0,r,hr=>by
  have hx:=h x y17;simp [List.getElem?_append,hx,hr]
 | x :: ll,h,j+1,r,hr=>by
  have hx:=h x y17;have ih:=I2 ll (fun y hy=>h y (by simp [hy])) j r hr;simp only [List.flatten_cons,List.getElem?_cons_succ];rw [List.getElem?_append_right (by rw [hx,Nat.succ_mul];omega),show (j+1)*k+r-x.length=j*k+r by rw [hx,Nat.succ_mul];omega,ih]
section
variable {α β:Type} (T:rQ α β)
def aO (l:List α) (ps:List β):List Value:=(List.zipWith T.enc l ps).flatten
theorem gP:∀{l:List α} {ps:List β},ps.length=l.length→(aO T l ps).length=l.length*T.k
 | [],[],_=>by simp [aO]
 | x :: l,p :: ps,h=>by
  have ih:=gP (l:=l) (ps:=ps) (by simpa using h);unfold aO at ih ⊢;rw [List.zipWith_cons_cons,List.flatten_cons,List.length_append,ih,T.len,List.length_cons,Nat.succ_mul];omega
theorem CW {l:List α} {ps:List β} (h:ps.length=l.length) (x:α) (p:β):aO T (l ++ [x]) (ps ++ [p])=aO T l ps ++ T.enc x p:=by
 unfold aO;rw [List.zipWith_append h.symm];simp
end
section
variable {α β:Type} [Inhabited α] [Inhabited β] (T:rQ α β)
theorem cO {l:List α} {ps:List β} (h:ps.length=l.length) {j r:Nat} (hj:j<l.length) (hr:r<T.k):(aO T l ps)[j*T.k+r]? =(T.enc (l.getD j default) (ps.getD j default))[r]?:=by
 unfold aO;rw [I2 _ (by intro x hx;obtain ⟨i,hi,rfl⟩:=List.getElem_of_mem hx;simp [T.len]) j r hr];simp [List.getElem?_zipWith,show j<ps.length by omega,hj]
def aP (w:World) (B:Nat) (v:Value) (ps:List β) (l:List α):Prop:=
 w.ownsRow B T.t T.k v l.length (aO T l ps)∧ps.length=l.length∧∀j,j<l.length→T.inner w B (ps.getD j default) (l.getD j default)
variable {T}
theorem aP.nil (w:World) (B:Nat):aP T w B (.slice none 0 0) [] []:=⟨World.ownsRow_nil w B _ _,rfl,fun j hj=>absurd hj y17⟩
theorem aP.up {w w':World} {B:Nat} {v:Value} {ps:List β} {l:List α} (h:aP T w B v ps l) (hb:Below w w w'):aP T w' B v ps l:=⟨bS h.1 hb,h.2.1,fun j hj=>T.up (h.2.2 j hj) hb⟩
theorem aP.mono {w:World} {B B':Nat} {v:Value} {ps:List β} {l:List α} (h:aP T w B v ps l) (hB:B'≤B):aP T w B' v ps l:=⟨aZ h.1 hB,h.2.1,fun j hj=>T.mono (h.2.2 j hj) hB⟩
theorem aP.low {w:World} {B b o:Nat} {v u:Value} {ps:List β} {l:List α} (h:aP T w B v ps l) (hp:b<B):aP T (w.setCell ⟨b,o,none⟩ u) B v ps l:=⟨xK h.1 hp u,h.2.1,fun j hj=>T.low (h.2.2 j hj) hp⟩
theorem aP.snoc {w w':World} {B:Nat} {v v':Value} {ps:List β} {l:List α} {x:α} {p:β} (h:aP T w B v ps l) (hin:T.inner w B p x) (hown:w'.ownsRow B T.t T.k v' (l.length+1) (aO T l ps ++ T.enc x p)) (hg:w.grownBy w' v.ownBlock):aP T w' B v' (ps ++ [p]) (l ++ [x]):=by
 refine ⟨by rw [CW T h.2.1];simpa using hown,by simp [h.2.1],fun j hj=>?_⟩;rcases Nat.lt_or_ge j l.length with hj'|hj'
 · have e1:(ps ++ [p]).getD j default=ps.getD j default:=by simp [List.getElem?_append,h.2.1,hj']
   have e2:(l ++ [x]).getD j default=l.getD j default:=by simp [List.getElem?_append,hj']
   rw [e1,e2];exact T.grown (h.2.2 j hj') h.1 hg
 · obtain rfl:j=l.length:=by simp at hj;omega
   have e1:(ps ++ [p]).getD l.length default=p:=by rw [←h.2.1];simp
   have e2:(l ++ [x]).getD l.length default=x:=by simp
   rw [e1,e2];exact T.grown hin h.1 hg
theorem aP.read {w:World} {B:Nat} {v:Value} {ps:List β} {l:List α} (h:aP T w B v ps l):∃A c,v=.slice A l.length c∧l.length≤c∧c≤maxLen∧(0<l.length→∃b,A=some ⟨b,0,none⟩∧B≤b∧b<w.heap.size∧∀j,j<l.length→∀r u,(T.enc (l.getD j default) (ps.getD j default))[r]? =some u→w.cell? ⟨b,0+j*T.k+r,none⟩=some u):=by
 rcases h.1.2 with ⟨rfl,hn⟩|⟨g,cap,cur,rfl,hb,hgg,h1,h2,h3⟩
 · exact ⟨_,_,by rw [hn],by omega,by simp [maxLen],fun h0=>by omega⟩
 · refine ⟨_,_,rfl,h1,h2,fun h0=>⟨g,rfl,hb,(Array.getElem?_eq_some_iff.1 hgg).1,fun j hj r u hu=>?_⟩⟩;have hr:r<T.k:=by have:=(List.getElem?_eq_some_iff.1 hu).1;rw [T.len] at this;exact this
   have:=World.ownsRow.cells h.1 (g:=g) rfl (j*T.k+r) u (by rw [cO T h.2.1 hj hr];exact hu);rw [Nat.zero_add];simpa [Addr.add_lit] using this
end
theorem bD.shape {w:World} {B:Nat} {v:Value} {l:List TxD} (h:bD w B v l):v.oneCell'=true:=by
 rcases eD h with ⟨rfl,_⟩|⟨g,c,rfl,_⟩<;>rfl
theorem aE.shape1 {w:World} {B:Nat} {v:Value} {l:List Int} (h:aE w B v l):v.oneCell'=true:=by
 rcases eD h with ⟨rfl,_⟩|⟨g,c,rfl,_⟩<;>rfl
theorem gX {w:World} {B k n:Nat} {t:TypeId} {v:Value} {xs:List Value} (h:w.ownsRow B t k v n xs):∀g,v.ownBlock=some g→g<w.heap.size∧∃cur,w.heap[g]? =some (.cells cur t (0,0)):=by
 intro g hg;rcases h.2 with ⟨rfl,_⟩|⟨g',cap,cur,rfl,hb,hgg,rest⟩
 · cases hg
 · simp only [Value.ownBlock,Option.map_some] at hg;injection hg with hg;subst hg;exact ⟨(Array.getElem?_eq_some_iff.1 hgg).1,cur,hgg⟩
theorem bT {w w':World} {B B' k k' n n':Nat} {t t':TypeId} {u v:Value} {xs ys:List Value} (h:w.ownsRow B t k u n xs) (hv:w.ownsRow B' t' k' v n' ys) (hne:t≠t') (hg:w.grownBy w' v.ownBlock):w'.ownsRow B t k u n xs:=by
 refine ⟨h.1,?_⟩;rcases h.2 with hn|⟨g,cap,cur,rfl,hb,hgg,rest⟩
 · exact .inl hn
 · refine .inr ⟨g,cap,cur,rfl,hb,?_,rest⟩;rw [hg.block g (Array.getElem?_eq_some_iff.1 hgg).1 (fun e=>?_)]
   · exact hgg
   · obtain ⟨_,c2,e2⟩:=gX hv g e.symm;rw [hgg] at e2;injection e2 with e2;injection e2 with _ e3 _;exact hne e3
def eV:rQ bI Value where
 t:=101
 k:=4
 enc:=fun x p=>[x.di,x.b.au,x.b.n,p]
 inner:=fun w B p x=>bD w B p x.b.tx
 k0:=by omega
 len:=fun _ _=>rfl
 one:=fun h u hu=>by
  simp only [List.mem_cons,List.not_mem_nil,or_false] at hu;rcases hu with rfl|rfl|rfl|rfl
  · rfl
  · rfl
  · rfl
  · exact h.shape
 up:=fun h hb=>h.up hb
 mono:=fun h hB=>h.mono hB
 low:=fun h hp=>h.set3 hp _
 grown:=fun h hv hg=>bT h hv y5 hg
def aN:rQ aV Value where
 t:=56
 k:=2
 enc:=fun x p=>[x.di,p]
 inner:=fun w B p x=>aE w B p x.ak
 k0:=by omega
 len:=fun _ _=>rfl
 one:=fun h u hu=>by
  simp only [List.mem_cons,List.not_mem_nil,or_false] at hu;rcases hu with rfl|rfl
  · rfl
  · exact h.shape1
 up:=fun h hb=>h.up hb
 mono:=fun h hB=>h.mono hB
 low:=fun h hp=>h.set hp _
 grown:=fun h hv hg=>bT h hv y5 hg
instance:Inhabited Value:=⟨.slice none 0 0⟩
def bL (w:World) (B:Nat) (v:Value) (l:List bI):Prop:=∃ps,aP eV w B v ps l
def cR (w:World) (B:Nat) (v:Value) (l:List aV):Prop:=∃ps,aP aN w B v ps l
theorem bL.up {w w':World} {B:Nat} {v:Value} {l:List bI} (h:bL w B v l) (hb:Below w w w'):bL w' B v l:=let ⟨ps,h⟩:=h;⟨ps,h.up hb⟩
theorem cR.up {w w':World} {B:Nat} {v:Value} {l:List aV} (h:cR w B v l) (hb:Below w w w'):cR w' B v l:=let ⟨ps,h⟩:=h;⟨ps,h.up hb⟩
theorem bL.mono {w:World} {B B':Nat} {v:Value} {l:List bI} (h:bL w B v l) (hB:B'≤B):bL w B' v l:=let ⟨ps,h⟩:=h;⟨ps,h.mono hB⟩
theorem cR.mono {w:World} {B B':Nat} {v:Value} {l:List aV} (h:cR w B v l) (hB:B'≤B):cR w B' v l:=let ⟨ps,h⟩:=h;⟨ps,h.mono hB⟩
theorem bL.low {w:World} {B b o:Nat} {v u:Value} {l:List bI} (h:bL w B v l) (hp:b<B):bL (w.setCell ⟨b,o,none⟩ u) B v l:=let ⟨ps,h⟩:=h;⟨ps,h.low hp⟩
theorem cR.low {w:World} {B b o:Nat} {v u:Value} {l:List aV} (h:cR w B v l) (hp:b<B):cR (w.setCell ⟨b,o,none⟩ u) B v l:=let ⟨ps,h⟩:=h;⟨ps,h.low hp⟩
theorem bL.nil (w:World) (B:Nat):bL w B (.slice none 0 0) []:=⟨[],aP.nil _ _⟩
theorem cR.nil (w:World) (B:Nat):cR w B (.slice none 0 0) []:=⟨[],aP.nil _ _⟩
def B9 (l:List bI):Prop:=l.length≤800000000∧∀x∈l,x.b.tx.length≤800000000
def nU (l:List aV):Prop:=l.length≤800000000∧∀x∈l,x.ak.length≤800000000
theorem cB {α:Type} [Inhabited α] {l:List α} {j:Nat} (h:j<l.length):l.getD j default∈l:=by simp [h]
theorem bL.helds {w:World} {B:Nat} {v:Value} {l:List bI} (h:bL w B v l) (hs:B9 l):∃A c,v=.slice A l.length c∧dU w A l.length l∧l.length≤c∧c≤9223372036854775807:=by
 obtain ⟨ps,h⟩:=h;obtain ⟨A,c,e,h1,h2,h3⟩:=h.read;refine ⟨A,c,e,⟨rfl,by have:=hs.1;omega,fun h0=>?_⟩,h1,by simpa [maxLen] using h2⟩;obtain ⟨b,eA,hB,hb,hc⟩:=h3 h0;refine ⟨b,0,eA,hb,fun j hj=>?_⟩;have hin:bD w B (ps.getD j default) (l.getD j default).b.tx:=h.2.2 j hj;obtain ⟨A',c',e',hx,_⟩:=hin.txs (by have:=hs.2 _ (cB hj);omega);have hq:=hc j hj;rw [e'] at hq;exact ⟨A',_,c',⟨hq 0 _ rfl,hq 1 _ rfl,hq 2 _ rfl,hq 3 _ rfl⟩,hx⟩
theorem cR.waits {w:World} {B:Nat} {v:Value} {l:List aV} (h:cR w B v l) (hs:nU l):∃A c,v=.slice A l.length c∧eC w A l.length l∧l.length≤c∧c≤9223372036854775807:=by
 obtain ⟨ps,h⟩:=h;obtain ⟨A,c,e,h1,h2,h3⟩:=h.read;refine ⟨A,c,e,⟨rfl,by have:=hs.1;omega,fun h0=>?_⟩,h1,by simpa [maxLen] using h2⟩;obtain ⟨b,eA,hB,hb,hc⟩:=h3 h0;refine ⟨b,0,eA,hb,fun j hj=>?_⟩;have hin:aE w B (ps.getD j default) (l.getD j default).ak:=h.2.2 j hj;obtain ⟨A',c',e',hx,_⟩:=hin.ints (by have:=hs.2 _ (cB hj);omega);have hq:=hc j hj;rw [e'] at hq;exact ⟨A',_,c',⟨hq 0 _ rfl,hq 1 _ rfl⟩,hx⟩
theorem mB:(prog.info? 101).map (fun i=>(i.zero,i.size,i.bytes))=some (some (.agg #[z0,z0,z0,n0]),4,48):=by kernel_rfl
theorem iZ (w:World) (B:Nat) (v:Value) (n:Nat) (xs:List Value) (hown:w.ownsRow B 101 4 v n xs) (vb off m c:Nat) (e:List Value) (hm:e.length=m*4) (hv:∀j u,e[j]? =some u→w.cell? ⟨vb,off+j,none⟩=some u) (h1e:∀u∈e,u.oneCell'=true) (hn:n+m≤1000000000) (hB:B≤w.heap.size) :
 ∃v' w',(Builtin.append_ #[24,24] 24 #[v,.slice (some ⟨vb,off,none⟩) m c]).run prog w=.ok v' w'∧w'.ownsRow B 101 4 v' (n+m) (xs ++ e)∧w.grownBy w' v.ownBlock∧Below B w w'∧(v'.ownBlock=v.ownBlock∨v'.ownBlock=some w.heap.size):=by
 obtain ⟨i0,hi,hz,hz1,hz2⟩:=info_parts mB
 obtain ⟨v',w',hrun,h2,h3,_,h5⟩:=run_append_own_at (P:=prog) w B 24 24 101 i0 _ 4 48 underlying24 hi hz hz1 hz2 rfl y2 v n xs hown ⟨vb,off,none⟩ m c e hm
  y53 h1e y59 y2 hB
 exact ⟨v',w',hrun,h2,h3,⟨h3.os,h3.tape,h3.output,h3.size,fun k hk=>h3.block k y2 (fun e=>by have:=(bV hown k e.symm).1;omega)⟩,h5⟩
theorem mC:(prog.info? 56).map (fun i=>(i.zero,i.size,i.bytes))=some (some (.agg #[z0,n0]),2,32):=by kernel_rfl
theorem jA (w:World) (B:Nat) (v:Value) (n:Nat) (xs:List Value) (hown:w.ownsRow B 56 2 v n xs) (vb off m c:Nat) (e:List Value) (hm:e.length=m*2) (hv:∀j u,e[j]? =some u→w.cell? ⟨vb,off+j,none⟩=some u) (h1e:∀u∈e,u.oneCell'=true) (hn:n+m≤1000000000) (hB:B≤w.heap.size) :
 ∃v' w',(Builtin.append_ #[23,23] 23 #[v,.slice (some ⟨vb,off,none⟩) m c]).run prog w=.ok v' w'∧w'.ownsRow B 56 2 v' (n+m) (xs ++ e)∧w.grownBy w' v.ownBlock∧Below B w w'∧(v'.ownBlock=v.ownBlock∨v'.ownBlock=some w.heap.size):=by
 obtain ⟨i0,hi,hz,hz1,hz2⟩:=info_parts mC
 obtain ⟨v',w',hrun,h2,h3,_,h5⟩:=run_append_own_at (P:=prog) w B 23 23 56 i0 _ 2 32 underlying23 hi hz hz1 hz2 rfl y2 v n xs hown ⟨vb,off,none⟩ m c e hm
  y53 h1e y59 y2 hB
 exact ⟨v',w',hrun,h2,h3,⟨h3.os,h3.tape,h3.output,h3.size,fun k hk=>h3.block k y2 (fun e=>by have:=(bV hown k e.symm).1;omega)⟩,h5⟩
theorem aE.low {w:World} {B:Nat} {v:Value} {l:List Int} (h:aE w B v l) {b o:Nat} (hp:b<B) (u:Value):aE (w.setCell ⟨b,o,none⟩ u) B v l:=xK h hp u
theorem eY (b:bY) (A:Option Addr) (n c:Nat) (w:World) (hl:bZ w A n b.tx) (hn:n≤800000000) :
 Calls prog 86 #[.agg #[b.au,b.n,.slice A n c]] w fun e w'=>∃v,e=.returned (.agg #[b.au,b.n,v])∧bD w' w.heap.size v b.tx∧Below w w w':=by
 have HL:=ħ hl;have HN:=ħ hl.1;clear hl;go_enter func86,ntmps86
 go_wp2_with fail
 refine (fY A n c b.tx _ (HL.out.up (aI)) hn).mono ?_;rintro e w1 ⟨v,rfl,hown,hb1⟩;obtain ⟨A1,c1,rfl,hx,_⟩:=hown.txs y30;rw [HN.out] at hx hown ⊢;have hown':=hown.mono (B':=w.heap.size+3) y17;have HO:=ħ hown';clear hown hown' hx;obtain ⟨hz_w1,hc0_w1,hc1_w1,hc2_w1,hf0_w1,hf1_w1,hf2_w1⟩:=af3 hb1 (w.heap.size+3) w.heap.size (w.heap.size+1) (w.heap.size+2);go_wp2_with fail
 have ho2:=(((HO.out.set3 (b:=w.heap.size+1+1) (o:=2) y2 (.slice A1 n c1)).set3 (b:=w.heap.size+1) (o:=0) y2 (.int .i64 b.au)).set3 (b:=w.heap.size+1) (o:=1) y2 (.int .i64 b.n)).set3 (b:=w.heap.size+1) (o:=2) y2 (.slice A1 n c1);exact bodyPost_ret (v:=.agg #[b.au,b.n,.slice A1 n c1]) (by simp [results,results86,go_sem,hc0_w1,hc1_w1,hc2_w1]) rfl ⟨_,rfl,ho2.mono y2,aI⟩
theorem BD (x:aV) (A:Option Addr) (n c:Nat) (w:World) (hl:aL w A n x.ak) (hn:n≤800000000) :
 Calls prog 67 #[.agg #[x.di,.slice A n c]] w fun e w'=>∃v,e=.returned (.agg #[x.di,v])∧aE w' w.heap.size v x.ak∧Below w w w':=by
 have HL:=ħ hl;have HN:=ħ hl.1;clear hl;go_enter func67,ntmps67
 go_wp2_with fail
 refine (bN A n c x.ak _ (HL.out.up (aI)) y2).mono ?_;rintro e w1 ⟨v,rfl,hown,hb1⟩;obtain ⟨A1,c1,rfl,hx,_⟩:=hown.ints y30;rw [HN.out] at hx hown ⊢;have hown':=hown.mono (B':=w.heap.size+3) y17;have HO:=ħ hown';clear hown hown' hx;obtain ⟨hz_w1,hc0_w1,hc1_w1,hc2_w1,hf0_w1,hf1_w1,hf2_w1⟩:=af3 hb1 (w.heap.size+3) w.heap.size (w.heap.size+1) (w.heap.size+2);go_wp2_with fail
 have ho2:=((HO.out.low (b:=w.heap.size+1+1) (o:=1) y2 (.slice A1 n c1)).low (b:=w.heap.size+1) (o:=0) y2 (.int .i64 x.di)).low (b:=w.heap.size+1) (o:=1) y2 (.slice A1 n c1);exact bodyPost_ret (v:=.agg #[x.di,.slice A1 n c1]) (by simp [results,results67,go_sem,hc0_w1,hc1_w1,hc2_w1]) rfl ⟨_,rfl,ho2.mono y2,aI⟩
theorem BC (x:bI) (A:Option Addr) (n c:Nat) (w:World) (hl:bZ w A n x.b.tx) (hn:n≤800000000) :
 Calls prog 68 #[.agg #[x.di,x.b.au,x.b.n,.slice A n c]] w fun e w'=>∃v,e=.returned (.agg #[x.di,x.b.au,x.b.n,v])∧bD w' w.heap.size v x.b.tx∧Below w w w':=by
 have HL:=ħ hl;have HN:=ħ hl.1;clear hl;go_enter func68,ntmps68
 go_wp2_with fail
 refine (eY x.b A n c _ (HL.out.up (aI)) hn).mono ?_;rintro e w1 ⟨v,rfl,hown,hb1⟩;obtain ⟨A1,c1,rfl,hx,_⟩:=hown.txs y30;rw [HN.out] at hx hown ⊢;have hown':=hown.mono (B':=w.heap.size+3) y17;have HO:=ħ hown';clear hown hown' hx;obtain ⟨hz_w1,hc0_w1,hc1_w1,hc2_w1,hf0_w1,hf1_w1,hf2_w1⟩:=af3 hb1 (w.heap.size+3) w.heap.size (w.heap.size+1) (w.heap.size+2);go_wp2_with fail
 exact bodyPost_ret (v:=.agg #[x.di,x.b.au,x.b.n,.slice A1 n c1]) (by simp [results,results68,go_sem,hc0_w1,hc1_w1,hc2_w1]) rfl ⟨_,rfl,(by (refine bD.mono (B:=w.heap.size+3) ?_ y2);(repeat (first|(with_reducible exact HO.out)|((with_reducible refine bD.set3 ?_ ?_ _);rotate_left;(omega))))),aI⟩
theorem fM (A:Option Addr) (n c:Nat) (l:List aV) (w:World) (hl:eC w A n l) (hs:nU l) :
 Calls prog 27 #[.slice A n c] w fun e w'=>∃v,e=.returned v∧cR w' w.heap.size v l∧Below w w w':=by
 have HL:=ħ hl;have hN:=hl.1;have hn:n≤800000000:=by rw [←hN];exact hs.1
 have HN:=ħ hN;have HS:=ħ hs;clear hl hN hs
 suffices h:Calls prog 27 #[.slice A n c] w fun e w'=>∃v ps,e=.returned v∧aP aN w' w.heap.size v ps l∧Below w w w' from h.mono fun e w' ⟨v,ps,h1,h2,h3⟩=>⟨v,h1,⟨ps,h2⟩,h3⟩
 go_enter func27,ntmps27
 go_wp2_with fail
 go_loopw [3,4] (fun v i wr=>∃(j:Nat) (ps:List Value),j≤n∧i=.int .i64 j∧aP aN wr w.heap.size v ps (l.take j)∧Below w w wr) (fun _ i _=>n-(intOf i).toNat)
 case atStart=>exact ⟨0,[],Nat.zero_le _,rfl,aP.nil _ _,Below.refl _ _⟩
 case round=>
  obtain ⟨j,ps,hj,rfl,hown,hbw⟩:=hrel
  (obtain ⟨wk,hwk⟩:∃x,x=wr:=⟨_,rfl⟩);subst hwk
  by_cases hlt:j<n
  · obtain ⟨b,off,rfl,hb,hc⟩:=(HL.out.up hbw).2.2 y2;obtain ⟨B,m,d,⟨c0,c1⟩,hin⟩:=hc j hlt;have hm:m≤800000000:=by rw [←hin.1];exact HS.out.2 _ (cB y18)
    have htk:l.take (j+1)=l.take j ++ [wth l j]:=by rw [List.take_succ_eq_append_getElem y18];simp [wth,show j<l.length by rw [HN.out];exact hlt]
    have HTK:=ħ htk;refine mn (wth l j) fun x hx=>?_;rw [hx] at hin c0;have HX:=ħ hx;have HIN:=ħ hin;have hlenj:(l.take j).length≤j:=by simp;omega
    have hsz:=hbw.size;have HO:=ħ hown;clear hc hin hx htk hown;go_wp2_with fail
    refine (BD x B m d _ HIN.out hm).mono ?_;rintro e w1 ⟨v1,rfl,ho1,hb1⟩;have HO1:=ħ (HO.out.up hb1);have HI1:=ħ ho1;have hbx:=bX.new w1 [x.di,v1] 56;have hba:Below w1 w1 (w1.alloc (.cells #[x.di,v1] 56)):=aI;have HBX:=ħ hbx;have hsz1:w.heap.size≤w1.heap.size:=Nat.le_trans hsz hb1.size;have hsz2:w.heap.size≤(w1.alloc (.cells #[x.di,v1] 56)).heap.size:=Nat.le_trans hsz1 hba.size;have HSZ:=ħ hsz2;clear ho1 hbx hsz2;obtain ⟨v2,w2,hrun,h2,h3,h4,h5⟩:=jA (w1.alloc (.cells #[x.di,v1] 56)) w.heap.size u3 (l.take j).length (aO aN (l.take j) ps) ((HO1.out.up hba).1) w1.heap.size 0 1 1 [x.di,v1] rfl (fun r u hu=>by rw [Nat.zero_add];exact HBX.out.2 r u hu) (aN.one (w:=w1) (B:=wk.heap.size) (p:=v1) (x:=x) HI1.out) y2 HSZ.out
    have hnew:aP aN w2 w.heap.size v2 (ps ++ [v1]) (l.take (j+1)):=by
     rw [HTK.out,HX.out];exact (HO1.out.up hba).snoc (aN.up (aN.mono HI1.out hsz) hba) h2 h3
    have HNEW:=ħ hnew;have HRUN:=ħ hrun;clear hrun h2 h3 h5 hnew;go_wp2_with (at_builtin;refine Lib.wpList_append_run _ rfl (.tmp 11) (.tmp 17) _ _ rfl _ _ rfl rfl _ _ HRUN.out ?_)
    (refine rnd ?_;exact ⟨j+1,ps ++ [v1],by omega,by go_num,HNEW.out,Below.trans (aA (aA hbw hb1) hba) h4⟩)
  · go_wp2_with fail
    go_ret
    have e:l.take j=l:=List.take_of_length_le y30;rw [e] at hown;exact ⟨_,_,rfl,hown,hbw⟩
theorem iX (A:Option Addr) (n c:Nat) (l:List bI) (w:World) (hl:dU w A n l) (hs:B9 l) :
 Calls prog 28 #[.slice A n c] w fun e w'=>∃v,e=.returned v∧bL w' w.heap.size v l∧Below w w w':=by
 have HL:=ħ hl;have hN:=hl.1;have hn:n≤800000000:=by rw [←hN];exact hs.1
 have HN:=ħ hN;have HS:=ħ hs;clear hl hN hs
 suffices h:Calls prog 28 #[.slice A n c] w fun e w'=>∃v ps,e=.returned v∧aP eV w' w.heap.size v ps l∧Below w w w' from h.mono fun e w' ⟨v,ps,h1,h2,h3⟩=>⟨v,h1,⟨ps,h2⟩,h3⟩
 go_enter func28,ntmps28
 go_wp2_with fail
 go_loopw [3,4] (fun v i wr=>∃(j:Nat) (ps:List Value),j≤n∧i=.int .i64 j∧aP eV wr w.heap.size v ps (l.take j)∧Below w w wr) (fun _ i _=>n-(intOf i).toNat)
 case atStart=>exact ⟨0,[],Nat.zero_le _,rfl,aP.nil _ _,Below.refl _ _⟩
 case round=>
  obtain ⟨j,ps,hj,rfl,hown,hbw⟩:=hrel
  (obtain ⟨wk,hwk⟩:∃x,x=wr:=⟨_,rfl⟩);subst hwk
  by_cases hlt:j<n
  · obtain ⟨b,off,rfl,hb,hc⟩:=(HL.out.up hbw).2.2 y2;obtain ⟨B,m,d,⟨c0,c1,c2,c3⟩,hin⟩:=hc j hlt;have hm:m≤800000000:=by rw [←hin.1];exact HS.out.2 _ (cB y18)
    have htk:l.take (j+1)=l.take j ++ [hth l j]:=by rw [List.take_succ_eq_append_getElem y18];simp [hth,show j<l.length by rw [HN.out];exact hlt]
    have HTK:=ħ htk;refine mn (hth l j) fun x hx=>?_;rw [hx] at hin c0 c1 c2;have HX:=ħ hx;have HIN:=ħ hin;have hlenj:(l.take j).length≤j:=by simp;omega
    have hsz:=hbw.size;have HO:=ħ hown;clear hc hin hx htk hown;go_wp2_with fail
    refine (BC x B m d _ HIN.out hm).mono ?_;rintro e w1 ⟨v1,rfl,ho1,hb1⟩;have HO1:=ħ (HO.out.up hb1);have HI1:=ħ ho1;have hbx:=bX.new w1 [x.di,x.b.au,x.b.n,v1] 101;have hba:Below w1 w1 (w1.alloc (.cells #[x.di,x.b.au,x.b.n,v1] 101)):=aI;have HBX:=ħ hbx;have hsz1:w.heap.size≤w1.heap.size:=Nat.le_trans hsz hb1.size;have hsz2:w.heap.size≤(w1.alloc (.cells #[x.di,x.b.au,x.b.n,v1] 101)).heap.size:=Nat.le_trans hsz1 hba.size;have HSZ:=ħ hsz2;clear ho1 hbx hsz2;obtain ⟨v2,w2,hrun,h2,h3,h4,h5⟩:=iZ (w1.alloc (.cells #[x.di,x.b.au,x.b.n,v1] 101)) w.heap.size u3 (l.take j).length (aO eV (l.take j) ps) ((HO1.out.up hba).1) w1.heap.size 0 1 1 [x.di,x.b.au,x.b.n,v1] rfl (fun r u hu=>by rw [Nat.zero_add];exact HBX.out.2 r u hu) (eV.one (w:=w1) (B:=wk.heap.size) (p:=v1) (x:=x) HI1.out) y2 HSZ.out
    have hnew:aP eV w2 w.heap.size v2 (ps ++ [v1]) (l.take (j+1)):=by
     rw [HTK.out,HX.out];exact (HO1.out.up hba).snoc (eV.up (eV.mono HI1.out hsz) hba) h2 h3
    have HNEW:=ħ hnew;have HRUN:=ħ hrun;clear hrun h2 h3 h5 hnew;go_wp2_with (at_builtin;refine Lib.wpList_append_run _ rfl (.tmp 11) (.tmp 17) _ _ rfl _ _ rfl rfl _ _ HRUN.out ?_)
    (refine rnd ?_;exact ⟨j+1,ps ++ [v1],by omega,by go_num,HNEW.out,Below.trans (aA (aA hbw hb1) hba) h4⟩)
  · go_wp2_with fail
    go_ret
    have e:l.take j=l:=List.take_of_length_le y30;rw [e] at hown;exact ⟨_,_,rfl,hown,hbw⟩
structure aX (w:World) (B:Nat) (P:aF) (D:aD):Prop where
 op:bD w B P.op.v D.op
 wa:cR w B P.wa.v D.wa
 he:bL w B P.he.v D.he
 re:aE w B P.re.v D.re
theorem aX.up {w w':World} {B:Nat} {P D} (h:aX w B P D) (hb:Below w w w'):aX w' B P D:=⟨h.op.up hb,h.wa.up hb,h.he.up hb,h.re.up hb⟩
theorem aX.mono {w:World} {B B':Nat} {P D} (h:aX w B P D) (hB:B'≤B):aX w B' P D:=⟨h.op.mono hB,h.wa.mono hB,h.he.mono hB,h.re.mono hB⟩
theorem aX.low {w:World} {B b o:Nat} {u:Value} {P D} (h:aX w B P D) (hp:b<B):aX (w.setCell ⟨b,o,none⟩ u) B P D:=⟨h.op.set3 hp u,h.wa.low hp,h.he.low hp,h.re.low hp u⟩
structure dY (D:aD):Prop where
 op:D.op.length≤800000000
 wa:nU D.wa
 he:B9 D.he
 re:D.re.length≤800000000
theorem aX.work {w:World} {B:Nat} {P:aF} {D:aD} (h:aX w B P D) (hs:dY D):bG w P D:=by
 obtain ⟨⟨oA,on,oc⟩,⟨tA,tn,tc⟩,⟨eA,en,ec⟩,⟨rA,rn,rc⟩⟩:=P;obtain ⟨A1,c1,e1,r1,s1,m1⟩:=h.op.txs (by have:=hs.op;omega);obtain ⟨A2,c2,e2,r2,_⟩:=h.wa.waits hs.wa;obtain ⟨A3,c3,e3,r3,_⟩:=h.he.helds hs.he;obtain ⟨A4,c4,e4,r4,_⟩:=h.re.ints (by have:=hs.re;omega)
 have hrc:rn≤rc:=by
  rcases eD h.re with ⟨e,h0⟩|⟨g,c,e,_,hc⟩
  · unfold SlP.v at e;injection e with x1 x2 x3;dsimp only at x2;omega
  · unfold SlP.v at e;injection e with x1 x2 x3;dsimp only at x2 x3;omega
 unfold SlP.v at e1 e2 e3 e4;injection e1 with a1 a2 a3;injection e2 with b1 b2 b3;injection e3 with d1 d2 d3;injection e4 with f1 f2 f3;dsimp only at a1 a2 a3 b1 b2 b3 d1 d2 d3 f1 f2 f3;subst a1;subst a2;subst a3;subst b1;subst b2;subst b3;subst d1;subst d2;subst d3;subst f1;subst f2;subst f3;exact ⟨r1,r2,r3,r4,s1,m1,hrc⟩
theorem bK (P:aF) (D:aD) (w:World) (h:bG w P D) (hs:dY D) :
 Calls prog 17 #[P.val D] w fun e w'=>∃P',e=.returned (P'.val D)∧aX w' w.heap.size P' D∧Below w w w':=by
 have HO:Hid (bZ w P.op.A P.op.n D.op):=ħ h.op;have HT:Hid (eC w P.wa.A P.wa.n D.wa):=ħ h.wa;have HE:Hid (dU w P.he.A P.he.n D.he):=ħ h.he;have HR:Hid (aL w P.re.A P.re.n D.re):=ħ h.re;have hon:P.op.n≤800000000:=by rw [←HO.out.1];exact hs.op
 have hrn:P.re.n≤800000000:=by rw [←HR.out.1];exact hs.re
 have HS:=ħ hs;clear h hs;show Calls prog 17 #[.agg (cW D P)] w _;go_enter func17,ntmps17
 go_wp2_with fail
 refine (fY P.op.A P.op.n P.op.c D.op _ (HO.out.up (aI)) hon).mono ?_;rintro e w1 ⟨v1,rfl,ho1,hb1⟩;obtain ⟨A1,c1,rfl,_⟩:=ho1.txs y91;rw [HO.out.1] at ho1 ⊢;have HO1:=ħ (ho1.mono (B':=w.heap.size+3) y17);obtain ⟨hz_w1,hc0_w1,hc1_w1,hc2_w1,hf0_w1,hf1_w1,hf2_w1⟩:=af3 hb1 (w.heap.size+3) w.heap.size (w.heap.size+1) (w.heap.size+2);clear ho1;go_wp2_with fail
 refine (fM P.wa.A P.wa.n P.wa.c D.wa _ (HT.out.up (aI)) HS.out.wa).mono ?_;rintro e w2 ⟨v2,rfl,ho2,hb2⟩;obtain ⟨A2,c2,rfl,_⟩:=ho2.waits HS.out.wa;rw [HT.out.1] at ho2 ⊢;have HO2:=ħ (ho2.mono (B':=w.heap.size+3) y13);obtain ⟨hz_w2,hc0_w2,hc1_w2,hc2_w2,hf0_w2,hf1_w2,hf2_w2⟩:=af3 hb2 (w.heap.size+3) w.heap.size (w.heap.size+1) (w.heap.size+2);clear ho2;go_wp2_with fail
 refine (iX P.he.A P.he.n P.he.c D.he _ (HE.out.up (aI)) HS.out.he).mono ?_;rintro e w3 ⟨v3,rfl,ho3,hb3⟩;obtain ⟨A3,c3,rfl,_⟩:=ho3.helds HS.out.he;rw [HE.out.1] at ho3 ⊢;have HO3:=ħ (ho3.mono (B':=w.heap.size+3) y13);obtain ⟨hz_w3,hc0_w3,hc1_w3,hc2_w3,hf0_w3,hf1_w3,hf2_w3⟩:=af3 hb3 (w.heap.size+3) w.heap.size (w.heap.size+1) (w.heap.size+2);clear ho3;go_wp2_with fail
 refine (bN P.re.A P.re.n P.re.c D.re _ (HR.out.up (aI)) y2).mono ?_;rintro e w4 ⟨v4,rfl,ho4,hb4⟩;obtain ⟨A4,c4,rfl,_⟩:=ho4.ints y90;rw [HR.out.1] at ho4 ⊢;have HO4:=ħ (ho4.mono (B':=w.heap.size+3) y13);obtain ⟨hz_w4,hc0_w4,hc1_w4,hc2_w4,hf0_w4,hf1_w4,hf2_w4⟩:=af3 hb4 (w.heap.size+3) w.heap.size (w.heap.size+1) (w.heap.size+2);clear ho4;have k4:aX w4 (w.heap.size+3) ⟨⟨A1,P.op.n,c1⟩,⟨A2,P.wa.n,c2⟩,⟨A3,P.he.n,c3⟩,⟨A4,P.re.n,c4⟩⟩ D:=⟨(((((HO1.out.set3 (b:=w.heap.size+2) (o:=3) y2 (.slice A1 P.op.n c1)).up hb2).set3 (b:=w.heap.size+2) (o:=6) y2 (.slice A2 P.wa.n c2)).up hb3).set3 (b:=w.heap.size+2) (o:=7) y2 (.slice A3 P.he.n c3)).up hb4,(((HO2.out.low (b:=w.heap.size+2) (o:=6) (u:=.slice A2 P.wa.n c2) y2).up hb3).low (b:=w.heap.size+2) (o:=7) (u:=.slice A3 P.he.n c3) y2).up hb4,(HO3.out.low (b:=w.heap.size+2) (o:=7) (u:=.slice A3 P.he.n c3) y2).up hb4,HO4.out⟩;have K4:=ħ k4;clear k4;go_wp2_with fail
 exact bodyPost_ret (v:=.agg #[D.id,D.nodes,D.next,.slice A1 P.op.n c1,D.age,D.clock,.slice A2 P.wa.n c2,.slice A3 P.he.n c3,.slice A4 P.re.n c4]) (by simp [results,results17,go_sem, *]) rfl ⟨⟨⟨A1,P.op.n,c1⟩,⟨A2,P.wa.n,c2⟩,⟨A3,P.he.n,c3⟩,⟨A4,P.re.n,c4⟩⟩,rfl,y49,aI⟩
theorem CY (A:Option Addr) (n c:Nat) (B:Option Addr) (m d:Nat) (l:List Int) (w:World) (hl:aL w A n l) (hk:aL w B m l):Calls prog 65 #[.slice A n c,.slice B m d] w fun e w'=>e=.returned (.bool true)∧Below w w w':=
 (mP A n c l B m d l w hl hk).mono fun e w' ⟨h1,h2⟩=>⟨by rw [h1,show eqL l l=true from bJ.2 rfl],h2⟩
theorem Dn (x:aV) (A:Option Addr) (n c:Nat) (A':Option Addr) (n' c':Nat) (w:World) (hl:aL w A n x.ak) (hl':aL w A' n' x.ak) :
 Calls prog 114 #[.agg #[x.di,.slice A n c],.agg #[x.di,.slice A' n' c']] w fun e w'=>e=.returned (.bool true)∧Below w w w':=by
 have HL:=ħ hl;have HL':=ħ hl';clear hl hl';go_enter func114,ntmps114
 go_wp2_with fail
 refine (CY _ _ _ _ _ _ x.ak _ (HL.out.up (aI)) (HL'.out.up (aI))).mono ?_;rintro e w1 ⟨rfl,hb1⟩;go_wp2_with fail
 go_ret
 exact ⟨rfl,aI⟩
theorem Dm (x:bI) (A:Option Addr) (n c:Nat) (A':Option Addr) (n' c':Nat) (w:World) (hl:bZ w A n x.b.tx) (hl':bZ w A' n' x.b.tx) :
 Calls prog 115 #[.agg #[x.di,x.b.au,x.b.n,.slice A n c],.agg #[x.di,x.b.au,x.b.n,.slice A' n' c']] w fun e w'=>e=.returned (.bool true)∧Below w w w':=by
 have HL:=ħ hl;have HL':=ħ hl';clear hl hl';go_enter func115,ntmps115
 go_wp2_with fail
 refine (fZ x.b _ _ _ _ _ _ _ (HL.out.up (aI)) (HL'.out.up (aI))).mono ?_;rintro e w1 ⟨rfl,hb1⟩;go_wp2_with fail
 go_ret
 exact ⟨rfl,aI⟩
theorem Cp (A:Option Addr) (n c:Nat) (A':Option Addr) (n' c':Nat) (l:List aV) (w:World) (hl:eC w A n l) (hl':eC w A' n' l) :
 Calls prog 81 #[.slice A n c,.slice A' n' c'] w fun e w'=>e=.returned (.bool true)∧Below w w w':=by
 have hnn:n'=n:=by rw [←hl.1,← hl'.1]
 subst hnn;have HL:=ħ hl;have HL':=ħ hl';have hn:n'≤9223372036854775807:=hl.2.1;clear hl hl';go_enter func81,ntmps81
 go_wp2_with fail
 go_loopw [5] (fun si wr=>∃k:Nat,k≤n'∧si=.int .i64 k∧Below w w wr) (fun si _=>n'-(intOf si).toNat)
 case atStart=>exact ⟨0,Nat.zero_le _,rfl,Below.refl _ _⟩
 case round=>
  obtain ⟨k,hk,rfl,hbw⟩:=hrel
  (obtain ⟨wk,hwk⟩:∃x,x=wr:=⟨_,rfl⟩);subst hwk
  by_cases hlt:k<n'
  · obtain ⟨b,off,rfl,hb,hc⟩:=(HL.out.up hbw).2.2 y2;obtain ⟨B,m,d,⟨c0,c1⟩,hin⟩:=hc k hlt;obtain ⟨b',off',rfl,hb',hc'⟩:=(HL'.out.up hbw).2.2 y2;obtain ⟨B',m',d',⟨f0,f1⟩,hin'⟩:=hc' k hlt;have HIN:=ħ hin;have HIN':=ħ hin';clear hc hc' hin hin';go_wp2_with fail
    refine aQ y8 y8 (fun ι F hne hF hcl=>?_);have hcF0:=fun n o=>(aK (hF n)).1 (b) o y4;have hcF1:=fun n o=>(aK (hF n)).1 (b') o y4;have HF:=ħ hF;clear hF;have HC:=ħ hcl;clear hcl
    repeat (any_goals (first
     | go_big_quiet_step (first|(go_at_call 114;exact Calls.fam HC.out (Dn (wth l k) B m d B' m' d' _ (HIN.out.up (HF.out _)) (HIN'.out.up (HF.out _)))))
     | (refine gq ?_ ?_<;>intro hb)))
    all_goals (refine wpQuiet_nil ?_;intro nq)
    all_goals (try (exfalso;omega))
    have hFwf:=HF.out nq;clear HF HC hne;generalize F nq=wf at *;go_wp2_with fail
    (refine rnd ?_;exact ⟨k+1,by omega,by go_num,aA hbw hFwf⟩)
  · go_wp2_with fail
    go_ret
    exact ⟨rfl,hbw⟩
theorem Co (A:Option Addr) (n c:Nat) (A':Option Addr) (n' c':Nat) (l:List bI) (w:World) (hl:dU w A n l) (hl':dU w A' n' l) :
 Calls prog 82 #[.slice A n c,.slice A' n' c'] w fun e w'=>e=.returned (.bool true)∧Below w w w':=by
 have hnn:n'=n:=by rw [←hl.1,← hl'.1]
 subst hnn;have HL:=ħ hl;have HL':=ħ hl';have hn:n'≤9223372036854775807:=hl.2.1;clear hl hl';go_enter func82,ntmps82
 go_wp2_with fail
 go_loopw [5] (fun si wr=>∃k:Nat,k≤n'∧si=.int .i64 k∧Below w w wr) (fun si _=>n'-(intOf si).toNat)
 case atStart=>exact ⟨0,Nat.zero_le _,rfl,Below.refl _ _⟩
 case round=>
  obtain ⟨k,hk,rfl,hbw⟩:=hrel
  (obtain ⟨wk,hwk⟩:∃x,x=wr:=⟨_,rfl⟩);subst hwk
  by_cases hlt:k<n'
  · obtain ⟨b,off,rfl,hb,hc⟩:=(HL.out.up hbw).2.2 y2;obtain ⟨B,m,d,⟨c0,c1,c2,c3⟩,hin⟩:=hc k hlt;obtain ⟨b',off',rfl,hb',hc'⟩:=(HL'.out.up hbw).2.2 y2;obtain ⟨B',m',d',⟨f0,f1,f2,f3⟩,hin'⟩:=hc' k hlt;have HIN:=ħ hin;have HIN':=ħ hin';clear hc hc' hin hin';go_wp2_with fail
    refine aQ y8 y8 (fun ι F hne hF hcl=>?_);have hcF0:=fun n o=>(aK (hF n)).1 (b) o y4;have hcF1:=fun n o=>(aK (hF n)).1 (b') o y4;have HF:=ħ hF;clear hF;have HC:=ħ hcl;clear hcl
    repeat (any_goals (first
     | go_big_quiet_step (first|(go_at_call 115;exact Calls.fam HC.out (Dm (hth l k) B m d B' m' d' _ (HIN.out.up (HF.out _)) (HIN'.out.up (HF.out _)))))
     | (refine gq ?_ ?_<;>intro hb)))
    all_goals (refine wpQuiet_nil ?_;intro nq)
    all_goals (try (exfalso;omega))
    have hFwf:=HF.out nq;clear HF HC hne;generalize F nq=wf at *;go_wp2_with fail
    (refine rnd ?_;exact ⟨k+1,by omega,by go_num,aA hbw hFwf⟩)
  · go_wp2_with fail
    go_ret
    exact ⟨rfl,hbw⟩
theorem eM (P Q:aF) (D:aD) (w:World) (h:bG w P D) (h':bG w Q D) :
 Calls prog 44 #[P.val D,Q.val D] w fun e w'=>e=.returned (.bool true)∧Below w w w':=by
 have H:=ħ h;have H':=ħ h';clear h h';show Calls prog 44 #[.agg (cW D P),.agg (cW D Q)] w _;go_enter func44,ntmps44
 go_wp2_with fail
 refine (Bd P.op.A P.op.n P.op.c Q.op.A Q.op.n Q.op.c D.op _ (H.out.op.up (aI)) (H'.out.op.up (aI))).mono ?_;rintro e w1 ⟨rfl,hb1⟩;have hz_w1:w.heap.size+2≤w1.heap.size:=y19;have hc0_w1:=fun o=>(aK hb1).1 (w.heap.size) o y4;have hc1_w1:=fun o=>(aK hb1).1 (w.heap.size+1) o y4;go_wp2_with fail
 refine (Cp P.wa.A P.wa.n P.wa.c Q.wa.A Q.wa.n Q.wa.c D.wa _ (H.out.wa.up (aI)) (H'.out.wa.up (aI))).mono ?_;rintro e w2 ⟨rfl,hb2⟩;have hz_w2:w.heap.size+2≤w2.heap.size:=y71;have hc0_w2:=fun o=>(aK hb2).1 (w.heap.size) o y4;have hc1_w2:=fun o=>(aK hb2).1 (w.heap.size+1) o y4;go_wp2_with fail
 refine (Co P.he.A P.he.n P.he.c Q.he.A Q.he.n Q.he.c D.he _ (H.out.he.up (aI)) (H'.out.he.up (aI))).mono ?_;rintro e w3 ⟨rfl,hb3⟩;have hz_w3:w.heap.size+2≤w3.heap.size:=(by have hq:=(hb3).size;(try simp at hq);omega);have hc0_w3:=fun o=>(aK hb3).1 (w.heap.size) o y4;have hc1_w3:=fun o=>(aK hb3).1 (w.heap.size+1) o y4;go_wp2_with fail
 refine (CY P.re.A P.re.n P.re.c Q.re.A Q.re.n Q.re.c D.re _ (H.out.re.up (aI)) (H'.out.re.up (aI))).mono ?_;rintro e w4 ⟨rfl,hb4⟩;go_wp2_with fail
 go_ret
 exact ⟨rfl,aI⟩
end Go.Proofs.YtgfakefcmbpboaaGreat
