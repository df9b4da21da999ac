/- Part 3 of what WorkerExact leans on. No conditions. -/
import Derived.Test.YtgfakefcmbpboaaGreatV2
namespace Go.Proofs.YtgfakefcmbpboaaGreat
set_option linter.all false
set_option maxRecDepth 100000
set_option maxHeartbeats 64000000
open _root_.Go.Proofs.Tryz Go.RowKit
section
open Go.RowKit
def Ev (l:List Int) (lo hi:Int):Prop:=∀j,j<l.length→lo≤nth l j∧nth l j≤hi
noncomputable def yD (l:List Int) (lo hi:Int):Bool:=dec (Ev l lo hi)
theorem qB (A:Option Addr) (n c:Nat) (l:List Int) (lo hi:Int) (w:World) (hl:aL w A n l) :
 Calls prog 38 #[.slice A n c,.int .i64 lo,.int .i64 hi] w fun e w'=>e=.returned (.bool (yD l lo hi))∧w=w':=by
 obtain ⟨h1,h2,h3⟩:=hl;have H1:=ħ h1;clear h1;go_enter func38,ntmps38
 go_wp2
 go_loop [7] (fun i=>∃k:Nat,k≤n∧i=.int .i64 k∧∀j,j<k→lo≤nth l j∧nth l j≤hi) (fun i=>n-(intOf i).toNat)
 case atStart=>exact ⟨0,Nat.zero_le _,rfl,fun j hj=>absurd hj y2⟩
 case round=>
  obtain ⟨k,hk,rfl,hr⟩:=hrel;have HR:=ħ hr;clear hr;by_cases hlt:k<n
  · obtain ⟨b,off,rfl,_,hc⟩:=h3 y2;have hck:=hc k hlt;clear hc h3;have bad:¬(lo≤nth l k∧nth l k≤hi)→false=yD l lo hi:=fun h=>dV fun g=>h (g k (by rw [H1.out];exact hlt));have B:=ħ bad;clear bad
    go_wp2
    all_goals first
     | (
      go_round
      case rel=>
       refine ⟨k+1,by omega,by go_num,fun j hj=>?_⟩;by_cases hjk:j=k
       · subst hjk;exact ⟨by omega,by omega⟩
       · exact HR.out j y2
      case measure=>simp [intOf];omega)
     | (go_ret;exact ⟨aH (B.out y2),rfl⟩)
  · go_wp2
    go_ret
    exact ⟨aH (sJ fun j hj=>HR.out j (by rw [H1.out] at hj;omega)),rfl⟩
theorem xL (A:Option Addr) (n c:Nat) (l:List Int) (w:World) (hl:aL w A n l) :
 Calls prog 34 #[.slice A n c] w fun e w'=>e=.returned (.bool (yD l 1 65536))∧w=w':=by
 go_enter func34,ntmps34
 go_wp2_with (go_at_call 38;refine (qB _ _ _ l _ _ _ hl).mono ?_;rintro e w' ⟨rfl,rfl⟩)
 go_ret
 exact ⟨rfl,rfl⟩
def inF (x:Int):Int→List Int→Int
 | _,[]=>-1
 | i,c :: l=>if c=x then i else inF x (i+1) l
def inS (l:List Int) (x:Int):Int:=inF x 0 l
def FH (l:List Int) (x:Int):Bool:=decide (0≤inS l x)
theorem FK (x:Int) (l:List Int) (k:Nat) (h:k<l.length):inF x k (l.drop k)=if nth l k=x then (k:Int) else inF x ((k+1:Nat):Int) (l.drop (k+1)):=by
 rw [FC l k h,inF];simp
theorem eT (A:Option Addr) (n c:Nat) (l:List Int) (x:Int) (w:World) (hl:aL w A n l) :
 Calls prog 70 #[.slice A n c,.int .i64 x] w fun e w'=>e=.returned (.int .i64 (inS l x))∧w=w':=by
 obtain ⟨h1,h2,h3⟩:=hl;have H1:=ħ h1;clear h1;have H3:=ħ h3;clear h3;go_enter func70,ntmps70
 go_wp2
 go_loop [5] (fun i=>∃k:Nat,k≤n∧i=.int .i64 k∧Hid (inS l x=inF x k (l.drop k))) (fun i=>n-(intOf i).toNat)
 case atStart=>exact ⟨0,Nat.zero_le _,rfl,rfl⟩
 case round=>
  obtain ⟨k,hk,rfl,hr⟩:=hrel;by_cases hlt:k<n
  · obtain ⟨b,off,rfl,hb,hc⟩:=H3.out y2;have hck:=hc k hlt;clear hc;have HS:=ħ (FK x l k (by rw [H1.out];exact hlt))
    go_wp2
    all_goals first
     | (
      go_round
      case rel=>exact ⟨k+1,by omega,by go_num,by have e:=hr.out;rw [HS.out,if_neg (by simpa using ‹(nth l k == x)=false›)] at e;exact e⟩
      case measure=>simp [intOf];omega)
     | (go_ret;exact ⟨AA (by rw [hr.out,HS.out,if_pos (by simpa using ‹(nth l k == x)=true›)]),rfl⟩)
  · go_wp2
    go_ret
    exact ⟨AA (by rw [hr.out,List.drop_of_length_le (by rw [H1.out];omega)];rfl),rfl⟩
theorem IB {l m:List Int} (h:l.length=m.length) (hh:∀j,j<l.length→nth l j=nth m j):l=m:=by
 apply List.ext_getElem h;intro i h1 h2;have:=hh i h1;simpa [nth,h1,h2] using this
noncomputable def eqL (l m:List Int):Bool:=dec (l=m)
theorem mP (A:Option Addr) (n c:Nat) (l:List Int) (B:Option Addr) (m d:Nat) (k:List Int) (w:World) (hl:aL w A n l) (hk:aL w B m k) :
 Calls prog 65 #[.slice A n c,.slice B m d] w fun e w'=>e=.returned (.bool (eqL l k))∧Below w w w':=by
 have HL:=ħ hl;have HK:=ħ hk;have hn:n≤9223372036854775807:=hl.2.1;have N1:=ħ hl.1;have N2:=ħ hk.1;clear hl hk;by_cases hnm:n=m
 · subst hnm;go_enter func65,ntmps65
   go_wp2
   go_loopw [5] (fun i wr=>∃j:Nat,j≤n∧i=.int .i64 j∧Hid (∀q,q<j→nth l q=nth k q)∧Below w w wr) (fun i _=>n-(intOf i).toNat)
   case atStart=>exact ⟨0,Nat.zero_le _,rfl,fun q hq=>absurd hq y2,y0⟩
   case round=>
    obtain ⟨j,hj,rfl,heq,hbw⟩:=hrel;by_cases hlt:j<n
    · obtain ⟨b1,o1,rfl,hb1,hc1⟩:=(HL.out.up hbw).2.2 (Nat.lt_of_le_of_lt (Nat.zero_le j) hlt);obtain ⟨b2,o2,rfl,hb2,hc2⟩:=(HK.out.up hbw).2.2 (Nat.lt_of_le_of_lt (Nat.zero_le j) hlt);have q1:=hc1 j hlt;have q2:=hc2 j hlt;clear hc1 hc2;by_cases hq:nth l j=nth k j
      · have hne:(nth l j != nth k j)=false:=by simp [hq]
        have HQ:=ħ hq;clear hq;go_wp2_with fail
        refine aQ y8 y8 (fun ι F hne hF hcl=>?_);have hcF0:=fun n o=>(aK (hF n)).1 (b1) o y4;have hcF1:=fun n o=>(aK (hF n)).1 (b2) o y4;have HF:=ħ hF;clear hF;have HC:=ħ hcl;clear hcl
        repeat (any_goals (first
         | go_big_quiet_step (first|(fail))
         | (refine gq ?_ ?_<;>intro hb)))
        all_goals (refine wpQuiet_nil ?_;intro nq;go_wp2_with (fail))
        (refine rnd ?_;(refine ⟨j+1,by omega,by go_num,fun q hq=>?_,y0⟩;rcases Nat.lt_or_ge q j with h1|h1;exact heq.out q h1;obtain rfl:q=j:=y2;exact HQ.out))
      · have hne:(nth l j != nth k j)=true:=by simp [hq]
        have HQ:=ħ hq;clear hq;go_wp2_with fail
        refine aQ y8 y8 (fun ι F hne hF hcl=>?_);have hcF0:=fun n o=>(aK (hF n)).1 (b1) o y4;have hcF1:=fun n o=>(aK (hF n)).1 (b2) o y4;have HF:=ħ hF;clear hF;have HC:=ħ hcl;clear hcl
        repeat (any_goals (first
         | go_big_quiet_step (first|(fail))
         | (refine gq ?_ ?_<;>intro hb)))
        all_goals (refine wpQuiet_nil ?_;intro nq;go_wp2_with (fail))
        go_ret
        exact ⟨aH (dV fun e=>HQ.out (by rw [e])),y0⟩
    · go_wp2
      go_ret
      exact ⟨aH (sJ (IB (N1.out.trans N2.out.symm) (fun q hq=>heq.out q (by rw [N1.out] at hq;omega)))),y0⟩
 · go_enter func65,ntmps65
   go_wp2
   go_ret
   exact ⟨aH (dV fun e=>hnm (by rw [←N1.out,← N2.out,e])),y0⟩
theorem FD (l:List Int):eqL l l=true:=bJ.2 rfl
theorem dW (A:Option Addr) (n c:Nat) (l:List Int) (B:Option Addr) (m d:Nat) (w:World) (hl:aL w A n l) (hk:aL w B m l) :
 Calls prog 65 #[.slice A n c,.slice B m d] w fun e w'=>e=.returned (.bool true)∧Below w w w':=
 (mP A n c l B m d l w hl hk).mono fun e w' ⟨h1,h2⟩=>⟨by rw [h1,FD],h2⟩
theorem BB {α:Type} (l:List α) (i n:Nat) (x:α) (h:i<n):(l.set i x).take n=(l.take n).set i x:=by
 apply List.ext_getElem?;intro j;by_cases hj:j<n
 · by_cases hij:i=j
   · subst hij;by_cases hl:i<l.length
     · simp [hj,List.getElem?_set,List.getElem?_take,hl];omega
     · simp [hj,List.getElem?_set,List.getElem?_take,hl];omega
   · simp [hj,List.getElem?_set,List.getElem?_take,hij]
 · simp [hj,List.getElem?_set,List.getElem?_take];omega
theorem aE.put {w:World} {B g n c i:Nat} {l:List Int} {x:Int} (h:aE w B (.slice (some ⟨g,0,none⟩) n c) l) (hi:i<l.length):aE (w.setCell ⟨g,i,none⟩ (.int .i64 x)) B (.slice (some ⟨g,0,none⟩) n c) (l.set i x):=by
 obtain ⟨h1,h2⟩:=h;refine ⟨by simp,?_⟩;rcases h2 with ⟨e,_⟩|⟨g',cap,cur,e,hb,hg,hc,hm,hs,ht⟩
 · cases e
 · injection e with e1 e2 e3;injection e1 with e1;injection e1 with e1;subst e1;subst e2;subst e3;refine .inr ⟨g,c,cur.setIfInBounds i (.int .i64 x),by simp,hb,?_,by simpa using hc,hm,by simpa using hs,?_⟩
   · simp [World.setCell,Array.getElem?_modify,hg]
   · rw [List.length_set,Array.toList_setIfInBounds,BB _ _ _ _ y2,ht,List.map_set]
theorem aE.get {w:World} {B g n c i:Nat} {l:List Int} (h:aE w B (.slice (some ⟨g,0,none⟩) n c) l) (hi:i<l.length):w.cell? ⟨g,i,none⟩=some (.int .i64 (nth l i))∧w.frozen? ⟨g,i,none⟩=false:=by
 constructor
 · have:=World.ownsRow.cells h (g:=g) rfl i (.int .i64 (nth l i)) (by simp [nth,hi]);simpa [Addr.add_lit] using this
 · obtain ⟨h1,h2⟩:=h;rcases h2 with ⟨e,_⟩|⟨g',cap,cur,e,hb,hg,_⟩
   · cases e
   · injection e with e1 e2 e3;injection e1 with e1;injection e1 with e1;subst e1;simp [World.frozen?,hg]
theorem aE.shape {w:World} {B:Nat} {v:Value} {l:List Int} (h:aE w B v l):(v=.slice none 0 0∧l=[])∨∃g c,v=.slice (some ⟨g,0,none⟩) l.length c∧B≤g:=by
 rcases h.2 with ⟨rfl,hn⟩|⟨g,cap,cur,rfl,hb,_⟩
 · exact .inl ⟨rfl,by simpa using hn⟩
 · exact .inr ⟨g,cap,rfl,hb⟩
theorem bN (A:Option Addr) (n c:Nat) (l:List Int) (w:World) (hl:aL w A n l) (hn:n≤1000000000) :
 Calls prog 29 #[.slice A n c] w fun e w'=>∃v,e=.returned v∧aE w' w.heap.size v l∧Below w w w':=by
 have HL:=ħ hl;have hN:=hl.1;have HN:=ħ hN;clear hl hN;go_enter func29,ntmps29
 go_wp2_with fail
 go_loopw [3,4] (fun v i wr=>∃j:Nat,j≤n∧i=.int .i64 j∧aE wr w.heap.size v (l.take j)∧Below w w wr) (fun _ i _=>n-(intOf i).toNat)
 case atStart=>exact ⟨0,Nat.zero_le _,rfl,aE.nil _ _,Below.refl _ _⟩
 case round=>
  obtain ⟨j,hj,rfl,hown,hbw⟩:=hrel;by_cases hlt:j<n
  · obtain ⟨b,off,rfl,hb,hc⟩:=(HL.out.up hbw).2.2 y2;have hcj:=hc j hlt;clear hc;have hlenj:(l.take j).length≤j:=by simp;omega
    have hsz:=hbw.size;go_wp2_with (at_builtin;refine fJ rfl (.tmp 11) (.tmp 16) rfl (w.heap.size) u3 _ rfl (hown.alloc _) _ (nth l j) rfl (eH _ _ _) y2 (fE hsz) ?_;intro v1 w1 hown1 hg1 hbel1 hat1)
    (refine rnd ?_;exact ⟨j+1,by omega,by go_num,by rw [jB l j y18];exact hown1,Below.trans (aB hbw) hbel1⟩)
  · go_wp2_with fail
    go_ret
    have e:l.take j=l:=List.take_of_length_le y30;exact ⟨_,rfl,e▸hown,hbw⟩
theorem aL.nil (w:World) (A:Option Addr):aL w A 0 []:=⟨rfl,by omega,fun h=>absurd h y2⟩
theorem nX:(prog.info? 3).map (fun i=>(i.zero,i.size,i.bytes))=some (some (.int .i64 0),1,8):=by kernel_rfl
theorem kC (w:World) (B:Nat) (v:Value) (n:Nat) (xs:List Value) (hown:w.ownsRow B 3 1 v n xs) (vb off m c:Nat) (e:List Value) (hm:e.length=m*1) (hv:∀j u,e[j]? =some u→w.cell? ⟨vb,off+j,none⟩=some u) (h1e:∀u∈e,u.oneCell'=true) (hn:n+m≤1000000000) (hB:B≤w.heap.size) :
 ∃v' w',(Builtin.append_ #[25,25] 25 #[v,.slice (some ⟨vb,off,none⟩) m c]).run prog w=.ok v' w'∧w'.ownsRow B 3 1 v' (n+m) (xs ++ e)∧w.grownBy w' v.ownBlock∧Below B w w'∧(v'.ownBlock=v.ownBlock∨v'.ownBlock=some w.heap.size):=by
 obtain ⟨i0,hi,hz,hz1,hz2⟩:=info_parts nX
 obtain ⟨v',w',hrun,h2,h3,_,h5⟩:=run_append_own_at (P:=prog) w B 25 25 3 i0 _ 1 8 underlying25 hi hz hz1 hz2 rfl y2 v n xs hown ⟨vb,off,none⟩ m c e hm
  y53 h1e y59 y2 hB
 exact ⟨v',w',hrun,h2,h3,⟨h3.os,h3.tape,h3.output,h3.size,fun k hk=>h3.block k y2 (fun e=>by have:=(bV hown k e.symm).1;omega)⟩,h5⟩
theorem yK (A:Option Addr) (n c:Nat) (xs:List Value) (w:World) (hr:iI w A n 1 xs) (h1x:∀u∈xs,u.oneCell'=true) (hn:n≤900000000) :
 Calls prog 125 #[.slice A n c] w fun r w'=>∃v',r=.returned v'∧w'.ownsRow w.heap.size 3 1 v' n xs∧Below w w w':=by
 obtain ⟨g1,g2,g3⟩:=hr;cases A with
 | none=>
  have h0:n=0:=by
   rcases Nat.eq_zero_or_pos n with h|h
   · exact h
   · obtain ⟨b,off,e,_⟩:=g3 h;cases e
  subst h0;have hx:xs=[]:=by simpa using g1
  subst hx;clear g1 g2 g3;have hnil:=Lib.run_eql_slice_nil (P:=prog) w 25 3 none 0 c 0 0 underlying25;go_enter func125,ntmps125
  go_wp2_with fail
  go_ret
  exact ⟨_,rfl,xJ _ _ _ _,Below.refl _ _⟩
 | some a=>
  have hown:(w.alloc (.cells #[] 3)).ownsRow w.heap.size 3 1 (.slice (some ⟨w,0,none⟩) 0 0) 0 []:=
   ⟨rfl,.inr ⟨w,0,#[],rfl,Nat.le_refl _,heap_alloc_new w _,Nat.le_refl _,by decide,rfl,rfl⟩⟩
  rcases Nat.eq_zero_or_pos n with h0|h0
  · subst h0;have hx:xs=[]:=by simpa using g1
    subst hx;clear g1 g2 g3;obtain ⟨b,off,sp⟩:=a
    have hrun:(Builtin.append_ #[25,25] 25 #[.slice (some ⟨w,0,none⟩) 0 0,.slice (some ⟨b,off,sp⟩) 0 c]).run prog (w.alloc (.cells #[] 3))=.ok (.slice (some ⟨w,0,none⟩) 0 0) (w.alloc (.cells #[] 3)):=by
     obtain ⟨i0,hi,hz,hz1,hz2⟩:=info_parts nX;simp [Builtin.append_,run_underlying underlying25,sizeOf,typeInfo,hi,Builtin.lenOf,Builtin.firstCells,loadCells,loadCellsFrom,storeCells]
    have HR:=ħ hrun;clear hrun;have hnil:=Lib.run_eql_slice_nil (P:=prog) w 25 3 (some ⟨b,off,sp⟩) 0 c 0 0 underlying25;go_enter func125,ntmps125
    go_wp2_with (at_builtin;refine Lib.wpList_append_run _ rfl _ _ _ _ rfl _ _ rfl rfl _ _ HR.out ?_)
    go_ret
    exact ⟨_,rfl,hown,(Below.refl _ _).alloc (Nat.le_refl _) _⟩
  · obtain ⟨b,off,e,hb,hc⟩:=g3 h0;injection e with e;subst e;have hba:Below w w (w.alloc (.cells #[] 3)):=(Below.refl _ _).alloc (Nat.le_refl _) _;obtain ⟨v',w',hrun,h2,h3,h4,h5⟩:=kC (w.alloc (.cells #[] 3)) w.heap.size _ 0 [] hown b off n c xs g1 (fun j u hj=>(hba.cell (p:=⟨b,off+j,none⟩) hb).trans (hc j u hj)) h1x y2 y17;rw [Nat.zero_add,List.nil_append] at h2;have HR:=ħ hrun;have H2:=ħ h2;have hbel:Below w w w':=hba.trans h4;clear hrun h2 h3 h4 h5 g1 g2 g3 hc hown;have hnil:=Lib.run_eql_slice_nil (P:=prog) w 25 3 (some ⟨b,off,none⟩) n c 0 0 underlying25;go_enter func125,ntmps125
    go_wp2_with (at_builtin;refine Lib.wpList_append_run _ rfl _ _ _ _ rfl _ _ rfl rfl _ _ HR.out ?_)
    go_ret
    exact ⟨_,rfl,H2.out,hbel⟩
def SlP.v (s:SlP):Value:=.slice s.A s.n s.c
theorem EZ (l:List Int):eN (fun z:Int=>[Value.int .i64 z]) l=l.map (Value.int .i64):=by
 induction l with
 | nil=>rfl
 | cons x l ih=>unfold eN at ih ⊢;rw [List.map_cons,List.flatten_cons,ih];rfl
theorem C7 (l:List Int):∀u∈l.map (Value.int .i64),u.oneCell'=true:=by
 intro u hu;obtain ⟨z,_,rfl⟩:=List.mem_map.1 hu;rfl
theorem Ez (x:Int):∀(l:List Int) (k:Int),0≤k→(inF x k l<0↔x∉l)
 | [],k,h=>by simp [inF]
 | c :: l,k,h=>by
  unfold inF;by_cases e:c=x
  · rw [if_pos e];simp [e];omega
  · rw [if_neg e,Ez x l (k+1) y2];simp [Ne.symm e]
theorem iT {x:Int} {l:List Int}:inS l x<0↔x∉l:=Ez x l 0 y2
theorem IK {l:List Int} {k:Nat} (h:k<l.length):nth l k∈l:=by
 unfold nth;simp [h]
theorem Au {l:List Int} {x:Int}:x∈l↔∃j,j<l.length∧nth l j=x:=by
 constructor
 · intro h;obtain ⟨j,hj,e⟩:=List.getElem_of_mem h;exact ⟨j,hj,by simp [nth,hj,e]⟩
 · rintro ⟨j,hj,rfl⟩;exact IK hj
def Ja (s:List Int):Prop:=Ev s 1 65536∧s.Nodup
end
section
open Go.RowKit Go.ChangeShapes Go.WideShapes Go.ChangeAt
structure bI where
 di:Int
 b:bY
deriving Inhabited
def hth (l:List bI) (i:Nat):bI:=l.getD i default
def I9 (w:World) (b off:Nat) (B:Option Addr) (m d:Nat) (h:bI):Prop:=
 w.cell? ⟨b,off,none⟩=some (.int .i64 h.di)∧w.cell? ⟨b,off+1,none⟩=some (.int .i64 h.b.au)∧w.cell? ⟨b,off+2,none⟩=some (.int .i64 h.b.n)∧w.cell? ⟨b,off+3,none⟩=some (.slice B m d)
def dU (w:World) (A:Option Addr) (n:Nat) (l:List bI):Prop:=
 l.length=n∧n≤9223372036854775807∧(0<n→∃b off,A=some ⟨b,off,none⟩∧b<w.heap.size∧∀j,j<n→∃(B:Option Addr) (m d:Nat),I9 w b (off+j*4) B m d (hth l j)∧bZ w B m (hth l j).b.tx)
theorem dU.up {w w':World} {A n l} (h:dU w A n l) (hb:Below w w w'):dU w' A n l:=by
 obtain ⟨h1,h2,h3⟩:=h;refine ⟨h1,h2,fun hn=>?_⟩;obtain ⟨b,off,e,hlt,hc⟩:=h3 hn;refine ⟨b,off,e,Nat.lt_of_lt_of_le hlt hb.size,fun j hj=>?_⟩;obtain ⟨B,m,d,⟨g0,g1,g2,g3⟩,g4⟩:=hc j hj;have g:=(aK hb).1;exact ⟨B,m,d,⟨(g _ _ hlt).trans g0,(g _ _ hlt).trans g1,(g _ _ hlt).trans g2,(g _ _ hlt).trans g3⟩,g4.up hb⟩
def SmH (h:bI):Prop:=SmB h.b
section
variable {H:Type} {enc:TypeId×Value→H} {w:World} {base:Nat} {spare:Nat→Bool} {held:Bool}
theorem DU:prog.cellsOf 101=4:=by kernel_rfl
theorem yU:prog.cellsOf 24=1:=by kernel_rfl
theorem ER:prog.bytesOf 3=8:=by kernel_rfl
theorem DS:prog.bytesOf 101=48:=by kernel_rfl
theorem vF {α:Type} [Inhabited α] {k kb:Nat} {G:α→Prop} {R:List Value→α→Prop} {t te:TypeId} (hk0:0<k) (hkb:0<kb) (ht:prog.underlying t=some (.slice te)) (hc:prog.cellsOf te=k) (hb0:prog.bytesOf te=kb)
 (hopen:∀(fuel:Nat) (cs:List Value) (x:DataW H×List MemPlace),DataW.trod enc prog w base spare held fuel te cs=some x→Wok te x.1→cs.length=k→∃v,R cs v∧G v)
 {fuel:Nat} {cs:List Value} {x:DataW H×List MemPlace} (h:DataW.trod enc prog w base spare held fuel t cs=some x) (hw:Wok t x.1) :
 ∃(A:Option Addr) (n c:Nat) (l:List α),cs=[.slice A n c]∧l.length=n∧n≤9223372036854775807∧n*kb≤140737488355328∧(∀v∈l,G v)∧(0<n→∃b off,A=some ⟨b,off,none⟩∧b<w.heap.size∧∀j,j<n→∃cs':List Value,cs'.length=k∧R cs' (l.getD j default)∧∀r v,cs'[r]? =some v→w.cell? ⟨b,off+j*k+r,none⟩=some v):=by
 rcases Deep.open_slice ht h with ⟨hcs,_⟩|⟨a,len,cap,m,n,D,Pl,hcs,_,hl,hm,hmm,hxx,hx⟩
 · exact ⟨none,0,0,[],hcs,rfl,by omega,by omega,(fun v hv=>by cases hv),fun h=>absurd h y2⟩
 · have hlen:len≤m:=by rw [hmm];split<;>omega
   rw [hxx] at hw
   have hq:len*kb≤140737488355328:=by
    have:=hw.len ht;rw [hb0] at this;simp only [List.length_map,List.length_range,reachBytes] at this;have h2:len*kb≤(len+(m-len))*kb:=Nat.mul_le_mul_right _ y2;omega
   have hcell:∀i,i<len→∃v:α,G v∧∃cs':List Value,cs'.length=k∧R cs' v∧∀j u,cs'[j]? =some u→w.cell? (a.add (i*k+j))=some u:=by
    intro i hi;obtain ⟨cs',h1,h2⟩:=hx i y2;rw [hc] at h1;obtain ⟨_,hlen',hat⟩:=World.cells?_some h1;obtain ⟨v,hR,hG⟩:=hopen _ _ _ h2 (hw.elem ht (List.mem_map.2 ⟨i,List.mem_range.2 hi,rfl⟩)) hlen';refine ⟨v,hG,cs',hlen',hR,fun j u hj=>?_⟩
    have hjk:j<k:=by
     have:=(List.getElem?_eq_some_iff.1 hj).1;omega
    have:=hat j hjk;rw [Deep.add_add] at this;rw [this];exact hj
   obtain ⟨f,hf⟩:=Deep.choose_lt (α:=α) hcell;have hg:∀i,i<len→((List.range len).map f).getD i default=f i:=fun i hi=>by simp [hi]
   refine ⟨some a,len,cap,(List.range len).map f,hcs,by simp,by have:cap≤9223372036854775807:=hm;omega,hq,fun v hv=>?_,fun hn=>?_⟩
   · rw [List.mem_map] at hv;obtain ⟨i,hi,rfl⟩:=hv;exact (hf i (List.mem_range.1 hi)).1
   · obtain ⟨b,off,spot⟩:=a;obtain ⟨_,cs0,hl0,_,h0⟩:=hf 0 hn;have hc0:=h0 0 _ (List.getElem?_eq_getElem y2);have hspot:spot=none:=by simpa [Addr.add] using World.cell?_spot hc0
     subst hspot;refine ⟨b,off,rfl,by simpa [Addr.add] using World.block_lt_of_cell? w _ hc0,fun j hj=>?_⟩;obtain ⟨_,cs1,hl1,hr,h1⟩:=hf j hj;rw [hg j hj];refine ⟨cs1,hl1,hr,fun r v hv=>?_⟩;have:=h1 r v hv;by_cases hz:j*k+r=0
     · have hj0:j*k=0:=by omega
       have hr0:r=0:=by omega
       rw [hj0,hr0] at this ⊢;simpa [Addr.add] using this
     · have e:(⟨b,off,none⟩:Addr).add (j*k+r)=⟨b,off+j*k+r,none⟩:=by simp only [Addr.add,hz,if_false,Nat.add_assoc]
       rw [←e];exact this
theorem iK {fuel:Nat} {cs:List Value} {x:DataW H×List MemPlace} (h:DataW.trod enc prog w base spare held fuel 25 cs=some x) (hw:Wok 25 x.1):∃A n c l,cs=[.slice A n c]∧aL w A n l∧n≤17592186044416∧n≤c:=by
 obtain ⟨A,n,c,l,e,h1,h2,h3,h4,h5,h6⟩:=vG (e:=fun z:Int=>[Value.int .i64 z]) (G:=fun _=>True) (k:=1) (kb:=8) (fun _=>rfl) y2 underlying25 bC ER (fun _ _ _ h _=>by obtain ⟨z,e⟩:=dN h;exact ⟨z,e,trivial⟩) h hw;refine ⟨A,n,c,l,e,⟨h1,h2.2.1,fun hn=>?_⟩,by omega,h3⟩;obtain ⟨b,off,e2,hb,hc⟩:=h2.2.2 hn;refine ⟨b,off,e2,hb,fun j hj=>hc j _ ?_⟩;rw [EZ];simp [nth,h1,hj]
theorem Dj {fuel:Nat} {cs:List Value} {x:DataW H×List MemPlace} (h:DataW.trod enc prog w base spare held fuel 24 cs=some x) (hw:Wok 24 x.1):∃A n c l,cs=[.slice A n c]∧dU w A n l∧n≤17592186044416∧∀v∈l,SmH v:=by
 obtain ⟨A,n,c,l,e,h1,h2,h3,h4,h5⟩:=vF (α:=bI) (k:=4) (kb:=48) (G:=SmH) (R:=fun cs v=>∃(B:Option Addr) (m d:Nat),cs=[.int .i64 v.di,.int .i64 v.b.au,.int .i64 v.b.n,.slice B m d]∧bZ w B m v.b.tx) y2 y2 underlying24 DU DS (fun fuel cs x h hw hl=>by
  obtain ⟨v0,v1,v2,v3,rfl⟩:=Db hl;obtain ⟨xs,n,_,hx,hl',hlen,hf⟩:=DataW.trod_struct underlying101 h;rw [hx] at hw;obtain ⟨y0,y1,rfl⟩:=EB hlen;have f0:DataW.trod enc prog w base spare held n 3 [v0]=some y0:=by simpa [bC] using hf 0 _ rfl
  have f1:DataW.trod enc prog w base spare held n 43 [v1,v2,v3]=some y1:=by simpa [bC,iM] using hf 1 _ rfl
  obtain ⟨z0,e0⟩:=dN f0;obtain ⟨b,A,m,c,e1,h1,h2⟩:=zE f1 (hw.field underlying101 (i:=1) (f:=43) rfl rfl);injection e0 with e0;simp only [List.cons.injEq,and_true] at e1;obtain ⟨rfl,rfl,rfl⟩:=e1;subst e0;exact ⟨⟨z0,b⟩,⟨A,m,c,rfl,h1⟩,h2⟩) h hw
 refine ⟨A,n,c,l,e,⟨h1,h2,fun hn=>?_⟩,by omega,h4⟩;obtain ⟨b,off,e2,hb,hc⟩:=h5 hn;refine ⟨b,off,e2,hb,fun j hj=>?_⟩;obtain ⟨cs',_,⟨B,m,d,rfl,ht⟩,hat⟩:=hc j hj;exact ⟨B,m,d,⟨hat 0 _ rfl,hat 1 _ rfl,hat 2 _ rfl,hat 3 _ rfl⟩,ht⟩
end
end
section
open Go.RowKit
theorem bR (d:Int) (y:Bool) (w:World) (hy:fX d=y):Calls prog 110 #[.int .i64 d] w fun e w'=>e=.returned (.bool y)∧w=w':=
 (nV d w).mono fun e w' ⟨h1,h2⟩=>⟨by rw [h1,hy],h2⟩
theorem BI {s:List Int} {k:Nat} {x:Int} (h:k<s.length) (hx:nth s k=x):(fun m=>if m=x then true else decide (m∈s.take k))=fun m=>decide (m∈s.take (k+1)):=by
 funext m
 rw [jB s k h,hx];by_cases e:m=x
 · simp [e]
 · simp [e]
theorem rV {s:List Int} {k:Nat} {x:Int} (h:k<s.length) (hx:nth s k=x) (hu:(s.take k).Nodup) (hn:x∉s.take k):(s.take (k+1)).Nodup:=by
 rw [jB s k h,hx];refine List.nodup_append.2 ⟨hu,by simp,?_⟩;intro a ha b hb e;simp at hb;subst hb;subst e;exact hn ha
theorem BY {s:List Int} {k:Nat} {x:Int} (h:k<s.length) (hx:nth s k=x) (hm:x∈s.take k):¬s.Nodup:=fun hu=>by
 have h1:(s.take (k+1)).Nodup:=hu.sublist (List.take_sublist _ _);rw [jB s k h,hx] at h1;exact (List.nodup_append.1 h1).2.2 x hm x y17 rfl
theorem Dy (w:World) (B:Nat) (v:Value) (l:List Int) (hown:aE w B v l) (A:Option Addr) (m c:Nat) (e:List Int) (he:aL w A m e) (hlen:l.length+m≤900000000) (hB:B≤w.heap.size) :
 ∃v' w',(Builtin.append_ #[25,25] 25 #[v,.slice A m c]).run prog w=.ok v' w'∧aE w' B v' (l ++ e)∧w.grownBy w' v.ownBlock∧Below B w w'∧(v'.ownBlock=v.ownBlock∨v'.ownBlock=some w.heap.size):=by
 rcases Nat.eq_zero_or_pos m with h0|h0
 · subst h0;have e0:e=[]:=List.length_eq_zero_iff.1 he.1;subst e0;obtain ⟨i0,hi,hz,hz1,hz2⟩:=info_parts nX;refine ⟨v,w,?_,by simpa using hown,World.grownBy.refl _ _,Below.refl _ _,.inl rfl⟩;have hsh:=hown.2;rcases hsh with ⟨rfl,_⟩|⟨g,cap,cur,rfl,_,_,hnc,_⟩
   · cases A<;>simp [Builtin.append_,run_underlying underlying25,sizeOf,typeInfo,hi,Builtin.lenOf,Builtin.firstCells,loadCells,loadCellsFrom,storeCells]
   · cases A<;>simp [Builtin.append_,run_underlying underlying25,sizeOf,typeInfo,hi,Builtin.lenOf,Builtin.firstCells,loadCells,loadCellsFrom,hnc,storeCells]
 · obtain ⟨b,off,rfl,hb,hc⟩:=he.2.2 h0
   obtain ⟨v',w',h1,h2,h3,h4,h5⟩:=kC w B v l.length (l.map (Value.int .i64)) hown b off m c (e.map (Value.int .i64)) (by simp [he.1])
    (fun j u hj=>by
     have hjl:j<e.length:=by have:=(List.getElem?_eq_some_iff.1 hj).1;simpa using this
     have e2:u=.int .i64 (nth e j):=by simp [List.getElem?_map,hjl,nth] at hj ⊢;exact hj.symm
     rw [e2];exact hc j (by rw [he.1] at hjl;exact hjl)) (C7 e) y2 hB
   refine ⟨v',w',h1,?_,h3,h4,h5⟩;unfold aE;rw [List.map_append,List.length_append,he.1];exact h2
theorem uX {w:World} {ops:Array Oper} {rest:List Oper} {o:Oper} {a:Act} {Q:Exit→Act→World→Prop} (hgd:o.guard=none) (s x:Operand)
 (ho:o.op=.call {callee:=.builtin .append,args:=#[s,x],argTypes:=#[25,25]}) (hty:o.type=25)
 (B:Nat) (v:Value) (l:List Int) (hs:a.eval s=v) (hown:aE w B v l) (A:Option Addr) (m c:Nat) (e:List Int) (hx:a.eval x=.slice A m c) (he:aL w A m e)
 (hlen:l.length+m≤900000000) (hB:B≤w.heap.size)
 (h:∀v' w',aE w' B v' (l ++ e)→w.grownBy w' v.ownBlock→Below B w w'→(v'.ownBlock=v.ownBlock∨v'.ownBlock=some w.heap.size)→wpList prog ops Q rest (a.put o.dst v') w'):wpList prog ops Q (o :: rest) a w:=by
 obtain ⟨v',w',hrun,h2,h3,h4,h5⟩:=Dy w B v l hown A m c e he hlen hB;exact Lib.wpList_append_run w hgd s x _ _ ho v _ hs hx v' w' y35 (h v' w' h2 h3 h4 h5)
end
section
open Go.RowKit
theorem It {α:Type} {f:α→Int} {M N:Int} (hMN:1048576+M≤N):∀(l:List α) (v:Int),(∀x∈l,f x≤M)→v≤N→wgo f l v≤N
 | [],v,_,h=>h
 | x :: l,v,hf,h=>by
  unfold wgo;split
  · have:=hf x y17;exact It hMN l _ (fun y hy=>hf y (by simp [hy])) y2
  · exact h
theorem EG {α:Type} {f:α→Int} (hf:∀x,0≤f x):∀(l:List α) (v:Int),0≤v→wgo f l v<1048576→∀x∈l,f x≤wgo f l v
 | [],v,_,_=>fun x hx=>by cases hx
 | y :: l,v,h0,h=>by
  unfold wgo at h ⊢;split
  · rename_i hv;rw [if_pos hv] at h;intro x hx;have hy:=hf y;rcases List.mem_cons.1 hx with rfl|hx
    · have:=CD hf l (v+f x);omega
    · exact EG hf l (v+f y) y2 h x hx
  · rename_i hv;rw [if_neg hv] at h;exact absurd h hv
def hwF (h:bI):Int:=xwS h.b.tx
def hwS (l:List bI):Int:=wgo hwF l (l.length:Int)
theorem yS (l:List TxD):(l.length:Int)≤xwS l:=CD Jp _ _
theorem D4 (h:bI):0≤hwF h:=by have:=yS h.b.tx;unfold hwF;omega
theorem FJ {h:bI} (hs:SmH h):hwF h≤562949953421312:=by
 have h1:h.b.tx.length≤17592186044416:=hs.1;exact yP _ _ (fun x hx=>F7 (hs.2 x hx)) y2
theorem Je (l:List bI):(l.length:Int)≤hwS l:=CD D4 _ _
theorem Jf {l:List bI} (hs:∀x∈l,SmH x) (hl:l.length≤17592186044416):hwS l≤1125899906842624:=
 It (M:=562949953421312) y2 _ _ (fun x hx=>FJ (hs x hx)) y2
theorem Jg {l:List bI} (h:hwS l<1048576):∀x∈l,(x.b.tx.length:Int)≤hwS l:=fun x hx=>by
 have h1:xwS x.b.tx≤hwS l:=EG D4 l (l.length:Int) y2 h x hx;have h2:=yS x.b.tx;omega
theorem zU (A:Option Addr) (n c:Nat) (l:List bI) (y:Int) (w:World) (hl:dU w A n l) (hs:∀x∈l,SmH x) (hn:n≤17592186044416) (hy:hwS l=y) :
 Calls prog 24 #[.slice A n c] w fun e w'=>e=.returned (.int .i64 y)∧Below w w w':=by
 have HL:=ħ hl;have HN:=ħ hl.1;have HS:=ħ hs;have HY:=ħ hy;clear hl hs hy;go_enter func24,ntmps24
 go_wp2_with fail
 go_loopw [3,4] (fun sv si wr=>∃(k:Nat) (v:Int),k≤n∧si=.int .i64 k∧sv=.int .i64 v∧0≤v∧v≤1125899906842624∧Hid (wgo hwF (l.drop k) v=y)∧Below w w wr) (fun _ si _=>n-(intOf si).toNat)
 case atStart=>exact ⟨0,n,Nat.zero_le _,rfl,rfl,by omega,by omega,ħ (by have:=HY.out;unfold hwS at this;rw [HN.out] at this;exact this),Below.refl _ _⟩
 case round=>
  obtain ⟨k,v,hk,rfl,rfl,hv0,hv1,HW,hbw⟩:=hrel
  (obtain ⟨wk,hwk⟩:∃x,x=wr:=⟨_,rfl⟩);subst hwk
  by_cases hlt:k<n
  · by_cases hvl:v<1048576
    · obtain ⟨b,off,rfl,hb,hc⟩:=(HL.out.up hbw).2.2 y2;obtain ⟨B,m,d,⟨c0,c1,c2,c3⟩,htx⟩:=hc k hlt;have hsm:SmH (hth l k):=EF HS.out (k:=k) y18;have hst:=DF (f:=hwF) l (v:=v) (k:=k) y18 hvl;rw [HW.out] at hst;refine nm (hth l k) fun p hp=>?_;have hp2:l.getD k default=p:=hp.symm;rw [hp2] at hst;rw [←hp] at c0 c1 c2 htx hsm;refine mn (xwS p.b.tx) fun y4 hy4=>?_;have hst2:y=wgo hwF (l.drop (k+1)) (v+y4):=by rw [←hy4];exact hst
      have hb41:0≤y4:=by rw [←hy4];exact D4 p
      have hb42:y4≤562949953421312:=by rw [←hy4];exact FJ hsm
      have hm:m≤17592186044416:=by rw [←htx.1];exact hsm.1
      have HST:=ħ hst2.symm;have HTX:=ħ htx;have HSM:=ħ hsm;have HY4:=ħ hy4;clear hc hst hp hp2 htx hsm hy4 hst2;go_wp2_with (go_at_call 23;refine (jQ B m d _ y4 _ HTX.out HSM.out.2 hm HY4.out).mono ?_;rintro e w5 ⟨rfl,hb5⟩)
      (refine rnd ?_;exact ⟨k+1,v+y4,by omega,by go_num,by first|rfl|go_num,by omega,by omega,HST,aA hbw hb5⟩)
    · have hd:decide (v<1048576)=false:=by simpa using hvl
      have e:=DG (f:=hwF) (l.drop k) hvl;rw [HW.out] at e;subst e;clear hvl;go_wp2_with fail
      go_ret
      exact ⟨rfl,hbw⟩
  · have e:y=v:=by
     have:=HW.out;rw [List.drop_of_length_le y30] at this;exact this.symm
    subst e;go_wp2_with fail
    go_ret
    exact ⟨rfl,hbw⟩
end
section
open Go.RowKit
theorem aL.take {w:World} {A:Option Addr} {n k:Nat} {l:List Int} (h:aL w A n l) (hk:k≤n):aL w A k (l.take k):=by
 obtain ⟨h1,h2,h3⟩:=h;refine ⟨by simp [h1];omega,by omega,fun hn=>?_⟩;obtain ⟨b,off,e,hb,hc⟩:=h3 y2;refine ⟨b,off,e,hb,fun j hj=>?_⟩;rw [hc j y2];simp [nth,List.getElem?_take,hj]
end
section
open Go.RowKit
def AC (l:List bI) (k:Nat):Prop:=fX (hth l k).di=true∧bmT (hth l k).b=true∧(0<k→(hth l (k-1)).di<(hth l k).di)
def BN (l:List bI):Prop:=∀k,k<l.length→AC l k
noncomputable def hdB (l:List bI):Bool:=dec (BN l)
theorem fD {l:List bI}:hdB l=true↔BN l:=bJ
theorem dG (d:Int) (y:Bool) (w:World) (hy:fX d=y):Calls prog 36 #[.int .i64 d] w fun e w'=>e=.returned (.bool y)∧w=w':=
 (sN d w).mono fun e w' ⟨h1,h2⟩=>⟨by rw [h1,hy],h2⟩
theorem Bs (A:Option Addr) (n c:Nat) (l:List bI) (y:Bool) (w:World) (hl:dU w A n l) (hy:hdB l=y):Calls prog 77 #[.slice A n c] w fun e w'=>e=.returned (.bool y)∧Below w w w':=by
 have HY:=ħ hy;have HL:=ħ hl;have HN:=ħ hl.1;have hnn:n≤9223372036854775807:=hl.2.1;clear hy hl;go_enter func77,ntmps77
 go_wp2_with fail
 go_loopw [7] (fun ix wr=>∃k:Nat,k≤n∧ix=.int .i64 k∧Hid (∀j,j<k→AC l j)∧Below w w wr) (fun ix _=>n-(intOf ix).toNat)
 case atStart=>exact ⟨0,Nat.zero_le _,rfl,ħ (fun j hj=>absurd hj y2),Below.refl _ _⟩
 case round=>
  obtain ⟨k,hk,rfl,HG,hbw⟩:=hrel
  (obtain ⟨wk,hwk⟩:∃x,x=wr:=⟨_,rfl⟩);subst hwk
  by_cases hlt:k<n
  · obtain ⟨b,off,rfl,hb,hc⟩:=(HL.out.up hbw).2.2 y2;obtain ⟨B,m,d,⟨c0,c1,c2,c3⟩,htx⟩:=hc k hlt
    have hbad:¬AC l k→hdB l=false:=fun h=>by
     cases hm:hdB l
     · rfl
     · exact absurd (fD.1 hm k y18) h
    have HB:=ħ hbad;refine nm (hth l k) fun p hp=>?_;rw [←hp] at c0 c1 c2 htx;have HP:=ħ hp;refine nm ((hth l (k-1)).di) fun o ho=>?_;have hd:0<k→wk.cell? ⟨b,off+(k-1)*4,none⟩=some (.int .i64 o):=fun h=>by rw [ho];obtain ⟨_,_,_,⟨q,_⟩,_⟩:=hc (k-1) y2;exact q
    have HO:=ħ ho;have HD:=ħ hd;clear hc hd ho hp hbad;have hA:bX (wk.alloc (.cells #[.int .i64 p.di,.int .i64 p.b.au,.int .i64 p.b.n,.slice B m d] 101)) wk.heap.size [.int .i64 p.di,.int .i64 p.b.au,.int .i64 p.b.n,.slice B m d]:=bX.new wk [.int .i64 p.di,.int .i64 p.b.au,.int .i64 p.b.n,.slice B m d] 101;have hba:Below wk wk (wk.alloc (.cells #[.int .i64 p.di,.int .i64 p.b.au,.int .i64 p.b.n,.slice B m d] 101)):=y0;have a_0:=(hA).2 0 _ rfl;have a_1:=(hA).2 1 _ rfl;have a_2:=(hA).2 2 _ rfl;have a_3:=(hA).2 3 _ rfl;have HTX:=ħ (htx.up hba);clear htx;cases h1:fX p.di
    · have H1:=ħ h1;clear h1;go_wp2_with fail
      refine aQ y8 y8 (fun ι F hne hF hcl=>?_);have hcF0:=fun n o=>(aK (hF n)).1 (wk.heap.size) o y4;have hcF1:=fun n o=>(aK (hF n)).1 (b) o y4;have HF:=ħ hF;clear hF;have HC:=ħ hcl;clear hcl
      repeat (any_goals (first
       | go_big_quiet_step (first|(go_at_call 110;exact Calls.fam_same (bR p.di false _ H1.out)))
       | (refine gq ?_ ?_<;>intro hb)))
      all_goals (refine wpQuiet_nil ?_;intro nq)
      all_goals (try (exfalso;omega))
      have hFwf:=HF.out nq;clear HF HC hne;generalize F nq=wf at *;have hbf:Below w w wf:=aA hbw (aA hba hFwf);go_wp2_with fail
      go_ret
      exact ⟨aH y72,hbf⟩
    have H1:=ħ h1;clear h1;cases h3:bmT p.b
    case' false=>
     have H3:=ħ h3;clear h3;rcases Nat.eq_zero_or_pos k with hk0|hk0
     · subst hk0;rw [Nat.zero_mul,Nat.add_zero] at c0 c1 c2 c3;go_wp2_with fail
       refine aQ y8 y8 (fun ι F hne hF hcl=>?_);have hcF0:=fun n o=>(aK (hF n)).1 (wk.heap.size) o y4;have hcF1:=fun n o=>(aK (hF n)).1 (b) o y4;have HF:=ħ hF;clear hF;have HC:=ħ hcl;clear hcl
       repeat (any_goals (first
        | go_big_quiet_step (first|(go_at_call 110;exact Calls.fam_same (bR p.di true _ H1.out))|(go_at_call 112;exact Calls.fam HC.out (lZ p.b B m d false _ (HTX.out.up (HF.out _)) H3.out)))
        | (refine gq ?_ ?_<;>intro hb)))
       all_goals (refine wpQuiet_nil ?_;intro nq)
       all_goals (try (exfalso;omega))
       have hFwf:=HF.out nq;clear HF HC hne;generalize F nq=wf at *;have hbf:Below w w wf:=aA hbw (aA hba hFwf);go_wp2_with fail
       go_ret
       exact ⟨aH y44,hbf⟩
     · have d0:=HD.out hk0;have hk1:(0:Int)<(k:Int):=by omega
       by_cases h2:o<p.di
       case' neg=>have h2b:decide (p.di≤o)=true:=by simp;omega
       case' pos=>have h2b:decide (p.di≤o)=false:=by simp;omega
       all_goals
        clear h2;go_wp2_with fail
        refine aQ y8 y8 (fun ι F hne hF hcl=>?_);have hcF0:=fun n o=>(aK (hF n)).1 (wk.heap.size) o y4;have hcF1:=fun n o=>(aK (hF n)).1 (b) o y4;have HF:=ħ hF;clear hF;have HC:=ħ hcl;clear hcl
        repeat (any_goals (first
         | go_big_quiet_step (first|(go_at_call 110;exact Calls.fam_same (bR p.di true _ H1.out))|(go_at_call 112;exact Calls.fam HC.out (lZ p.b B m d false _ (HTX.out.up (HF.out _)) H3.out)))
         | (refine gq ?_ ?_<;>intro hb)))
        all_goals (refine wpQuiet_nil ?_;intro nq)
        all_goals (try (exfalso;omega))
        have hFwf:=HF.out nq;clear HF HC hne;generalize F nq=wf at *;have hbf:Below w w wf:=aA hbw (aA hba hFwf);go_wp2_with fail
        go_ret
        exact ⟨aH y44,hbf⟩
    case' true=>
     have H3:=ħ h3;clear h3;rcases Nat.eq_zero_or_pos k with hk0|hk0
     · subst hk0;rw [Nat.zero_mul,Nat.add_zero] at c0 c1 c2 c3;go_wp2_with fail
       refine aQ y8 y8 (fun ι F hne hF hcl=>?_);have hcF0:=fun n o=>(aK (hF n)).1 (wk.heap.size) o y4;have hcF1:=fun n o=>(aK (hF n)).1 (b) o y4;have HF:=ħ hF;clear hF;have HC:=ħ hcl;clear hcl
       repeat (any_goals (first
        | go_big_quiet_step (first|(go_at_call 110;exact Calls.fam_same (bR p.di true _ H1.out))|(go_at_call 112;exact Calls.fam HC.out (lZ p.b B m d true _ (HTX.out.up (HF.out _)) H3.out)))
        | (refine gq ?_ ?_<;>intro hb)))
       all_goals (refine wpQuiet_nil ?_;intro nq)
       all_goals (try (exfalso;omega))
       have hFwf:=HF.out nq;clear HF HC hne;generalize F nq=wf at *;have hbf:Below w w wf:=aA hbw (aA hba hFwf);go_wp2_with fail
       (refine rnd ?_;exact ⟨1,by omega,rfl,ħ (fun j hj=>y57),hbf⟩)
     · have d0:=HD.out hk0;have hk1:(0:Int)<(k:Int):=by omega
       by_cases h2:o<p.di
       · have h2b:decide (p.di≤o)=false:=by simp;omega
         have H2:=ħ h2;clear h2;go_wp2_with fail
         refine aQ y8 y8 (fun ι F hne hF hcl=>?_);have hcF0:=fun n o=>(aK (hF n)).1 (wk.heap.size) o y4;have hcF1:=fun n o=>(aK (hF n)).1 (b) o y4;have HF:=ħ hF;clear hF;have HC:=ħ hcl;clear hcl
         repeat (any_goals (first
          | go_big_quiet_step (first|(go_at_call 110;exact Calls.fam_same (bR p.di true _ H1.out))|(go_at_call 112;exact Calls.fam HC.out (lZ p.b B m d true _ (HTX.out.up (HF.out _)) H3.out)))
          | (refine gq ?_ ?_<;>intro hb)))
         all_goals (refine wpQuiet_nil ?_;intro nq)
         all_goals (try (exfalso;omega))
         have hFwf:=HF.out nq;clear HF HC hne;generalize F nq=wf at *;have hbf:Below w w wf:=aA hbw (aA hba hFwf);go_wp2_with fail
         (refine rnd ?_;exact ⟨k+1,by omega,by go_num,ħ (fun j hj=>y41),hbf⟩)
       · have h2b:decide (p.di≤o)=true:=by simp;omega
         have H2:=ħ h2;clear h2;go_wp2_with fail
         refine aQ y8 y8 (fun ι F hne hF hcl=>?_);have hcF0:=fun n o=>(aK (hF n)).1 (wk.heap.size) o y4;have hcF1:=fun n o=>(aK (hF n)).1 (b) o y4;have HF:=ħ hF;clear hF;have HC:=ħ hcl;clear hcl
         repeat (any_goals (first
          | go_big_quiet_step (first|(go_at_call 110;exact Calls.fam_same (bR p.di true _ H1.out))|(go_at_call 112;exact Calls.fam HC.out (lZ p.b B m d true _ (HTX.out.up (HF.out _)) H3.out)))
          | (refine gq ?_ ?_<;>intro hb)))
         all_goals (refine wpQuiet_nil ?_;intro nq)
         all_goals (try (exfalso;omega))
         have hFwf:=HF.out nq;clear HF HC hne;generalize F nq=wf at *;have hbf:Below w w wf:=aA hbw (aA hba hFwf);go_wp2_with fail
         go_ret
         exact ⟨aH (by rw [←HY.out,HB.out (fun g=>(by have:=g.2.2 hk0;rw [←HP.out,← HO.out] at this;have h9:=H2.out;omega))]),hbf⟩
  · obtain rfl:k=n:=by omega
    have hyes:y=true:=by rw [←HY.out];exact fD.2 (fun j hj=>HG.out j y95)
    subst hyes;go_wp2_with fail
    go_ret
    exact ⟨rfl,hbw⟩
theorem Be (A:Option Addr) (n c:Nat) (l:List bI) (y:Bool) (w:World) (hl:dU w A n l) (hy:hdB l=y):Calls prog 33 #[.slice A n c] w fun e w'=>e=.returned (.bool y)∧Below w w w':=by
 have HY:=ħ hy;have HL:=ħ hl;have HN:=ħ hl.1;have hnn:n≤9223372036854775807:=hl.2.1;clear hy hl;go_enter func33,ntmps33
 go_wp2_with fail
 go_loopw [3] (fun ix wr=>∃k:Nat,k≤n∧ix=.int .i64 k∧Hid (∀j,j<k→AC l j)∧Below w w wr) (fun ix _=>n-(intOf ix).toNat)
 case atStart=>exact ⟨0,Nat.zero_le _,rfl,ħ (fun j hj=>absurd hj y2),Below.refl _ _⟩
 case round=>
  obtain ⟨k,hk,rfl,HG,hbw⟩:=hrel
  (obtain ⟨wk,hwk⟩:∃x,x=wr:=⟨_,rfl⟩);subst hwk
  by_cases hlt:k<n
  · obtain ⟨b,off,rfl,hb,hc⟩:=(HL.out.up hbw).2.2 y2;obtain ⟨B,m,d,⟨c0,c1,c2,c3⟩,htx⟩:=hc k hlt
    have hbad:¬AC l k→hdB l=false:=fun h=>by
     cases hm:hdB l
     · rfl
     · exact absurd (fD.1 hm k y18) h
    have HB:=ħ hbad;refine nm (hth l k) fun p hp=>?_;rw [←hp] at c0 c1 c2 htx;have HP:=ħ hp;refine nm ((hth l (k-1)).di) fun o ho=>?_;have hd:0<k→wk.cell? ⟨b,off+(k-1)*4,none⟩=some (.int .i64 o):=fun h=>by rw [ho];obtain ⟨_,_,_,⟨q,_⟩,_⟩:=hc (k-1) y2;exact q
    have HO:=ħ ho;have HD:=ħ hd;clear hc hd ho hp hbad;have HTX:=ħ htx;clear htx;cases h1:fX p.di
    · have H1:=ħ h1;clear h1;go_wp2_with fail
      refine aQ y8 y8 (fun ι F hne hF hcl=>?_);have hcF0:=fun n o=>(aK (hF n)).1 (b) o y4;have HF:=ħ hF;clear hF;have HC:=ħ hcl;clear hcl
      repeat (any_goals (first
       | go_big_quiet_step (first|(go_at_call 36;exact Calls.fam_same (dG p.di false _ H1.out)))
       | (refine gq ?_ ?_<;>intro hb)))
      all_goals (refine wpQuiet_nil ?_;intro nq)
      all_goals (try (exfalso;omega))
      have hFwf:=HF.out nq;clear HF HC hne;generalize F nq=wf at *;have hbf:Below w w wf:=aA hbw hFwf;go_wp2_with fail
      go_ret
      exact ⟨aH y72,hbf⟩
    have H1:=ħ h1;clear h1;cases h3:bmT p.b
    case' false=>
     have H3:=ħ h3;clear h3;rcases Nat.eq_zero_or_pos k with hk0|hk0
     · subst hk0;rw [Nat.zero_mul,Nat.add_zero] at c0 c1 c2 c3;go_wp2_with fail
       refine aQ y8 y8 (fun ι F hne hF hcl=>?_);have hcF0:=fun n o=>(aK (hF n)).1 (b) o y4;have HF:=ħ hF;clear hF;have HC:=ħ hcl;clear hcl
       repeat (any_goals (first
        | go_big_quiet_step (first|(go_at_call 36;exact Calls.fam_same (dG p.di true _ H1.out))|(go_at_call 69;exact Calls.fam HC.out (jM p.b B m d false _ (HTX.out.up (HF.out _)) H3.out)))
        | (refine gq ?_ ?_<;>intro hb)))
       all_goals (refine wpQuiet_nil ?_;intro nq)
       all_goals (try (exfalso;omega))
       have hFwf:=HF.out nq;clear HF HC hne;generalize F nq=wf at *;have hbf:Below w w wf:=aA hbw hFwf;go_wp2_with fail
       go_ret
       exact ⟨aH y44,hbf⟩
     · have d0:=HD.out hk0;have hk1:(0:Int)<(k:Int):=by omega
       by_cases h2:o<p.di
       case' neg=>have h2b:decide (p.di≤o)=true:=by simp;omega
       case' pos=>have h2b:decide (p.di≤o)=false:=by simp;omega
       all_goals
        clear h2;go_wp2_with fail
        refine aQ y8 y8 (fun ι F hne hF hcl=>?_);have hcF0:=fun n o=>(aK (hF n)).1 (b) o y4;have HF:=ħ hF;clear hF;have HC:=ħ hcl;clear hcl
        repeat (any_goals (first
         | go_big_quiet_step (first|(go_at_call 36;exact Calls.fam_same (dG p.di true _ H1.out))|(go_at_call 69;exact Calls.fam HC.out (jM p.b B m d false _ (HTX.out.up (HF.out _)) H3.out)))
         | (refine gq ?_ ?_<;>intro hb)))
        all_goals (refine wpQuiet_nil ?_;intro nq)
        all_goals (try (exfalso;omega))
        have hFwf:=HF.out nq;clear HF HC hne;generalize F nq=wf at *;have hbf:Below w w wf:=aA hbw hFwf;go_wp2_with fail
        go_ret
        exact ⟨aH y44,hbf⟩
    case' true=>
     have H3:=ħ h3;clear h3;rcases Nat.eq_zero_or_pos k with hk0|hk0
     · subst hk0;rw [Nat.zero_mul,Nat.add_zero] at c0 c1 c2 c3;go_wp2_with fail
       refine aQ y8 y8 (fun ι F hne hF hcl=>?_);have hcF0:=fun n o=>(aK (hF n)).1 (b) o y4;have HF:=ħ hF;clear hF;have HC:=ħ hcl;clear hcl
       repeat (any_goals (first
        | go_big_quiet_step (first|(go_at_call 36;exact Calls.fam_same (dG p.di true _ H1.out))|(go_at_call 69;exact Calls.fam HC.out (jM p.b B m d true _ (HTX.out.up (HF.out _)) H3.out)))
        | (refine gq ?_ ?_<;>intro hb)))
       all_goals (refine wpQuiet_nil ?_;intro nq)
       all_goals (try (exfalso;omega))
       have hFwf:=HF.out nq;clear HF HC hne;generalize F nq=wf at *;have hbf:Below w w wf:=aA hbw hFwf;go_wp2_with fail
       (refine rnd ?_;exact ⟨1,by omega,rfl,ħ (fun j hj=>y57),hbf⟩)
     · have d0:=HD.out hk0;have hk1:(0:Int)<(k:Int):=by omega
       by_cases h2:o<p.di
       · have h2b:decide (p.di≤o)=false:=by simp;omega
         have H2:=ħ h2;clear h2;go_wp2_with fail
         refine aQ y8 y8 (fun ι F hne hF hcl=>?_);have hcF0:=fun n o=>(aK (hF n)).1 (b) o y4;have HF:=ħ hF;clear hF;have HC:=ħ hcl;clear hcl
         repeat (any_goals (first
          | go_big_quiet_step (first|(go_at_call 36;exact Calls.fam_same (dG p.di true _ H1.out))|(go_at_call 69;exact Calls.fam HC.out (jM p.b B m d true _ (HTX.out.up (HF.out _)) H3.out)))
          | (refine gq ?_ ?_<;>intro hb)))
         all_goals (refine wpQuiet_nil ?_;intro nq)
         all_goals (try (exfalso;omega))
         have hFwf:=HF.out nq;clear HF HC hne;generalize F nq=wf at *;have hbf:Below w w wf:=aA hbw hFwf;go_wp2_with fail
         (refine rnd ?_;exact ⟨k+1,by omega,by go_num,ħ (fun j hj=>y41),hbf⟩)
       · have h2b:decide (p.di≤o)=true:=by simp;omega
         have H2:=ħ h2;clear h2;go_wp2_with fail
         refine aQ y8 y8 (fun ι F hne hF hcl=>?_);have hcF0:=fun n o=>(aK (hF n)).1 (b) o y4;have HF:=ħ hF;clear hF;have HC:=ħ hcl;clear hcl
         repeat (any_goals (first
          | go_big_quiet_step (first|(go_at_call 36;exact Calls.fam_same (dG p.di true _ H1.out))|(go_at_call 69;exact Calls.fam HC.out (jM p.b B m d true _ (HTX.out.up (HF.out _)) H3.out)))
          | (refine gq ?_ ?_<;>intro hb)))
         all_goals (refine wpQuiet_nil ?_;intro nq)
         all_goals (try (exfalso;omega))
         have hFwf:=HF.out nq;clear HF HC hne;generalize F nq=wf at *;have hbf:Below w w wf:=aA hbw hFwf;go_wp2_with fail
         go_ret
         exact ⟨aH (by rw [←HY.out,HB.out (fun g=>(by have:=g.2.2 hk0;rw [←HP.out,← HO.out] at this;have h9:=H2.out;omega))]),hbf⟩
  · obtain rfl:k=n:=by omega
    have hyes:y=true:=by rw [←HY.out];exact fD.2 (fun j hj=>HG.out j y95)
    subst hyes;go_wp2_with fail
    go_ret
    exact ⟨rfl,hbw⟩
def bB (l:List bI) (key:Int):Nat:=cnt (fun x=>ltI x.di key) l
noncomputable def dL (l:List bI) (key:Int):Bool:=dec (bB l key<l.length∧(hth l (bB l key)).di=key)
def dQ (l:List bI):Prop:=∀i j,i<j→j<l.length→ltI (hth l i).di (hth l j).di=true
theorem DZ (a:bI) (Bq:Option Addr) (mq dq:Nat) (key:Int) (w:World):Calls prog 140 #[.agg #[.int .i64 a.di,.int .i64 a.b.au,.int .i64 a.b.n,.slice Bq mq dq],.int .i64 key] w fun e w'=>e=.returned (.int .i64 (pX a.di key))∧Below w w w':=by
 go_enter func140,ntmps140
 go_wp2_with (go_at_call 141;refine (rR _ _ _).mono ?_;rintro e w' ⟨rfl,rfl⟩)
 go_ret
 exact ⟨rfl,aJ⟩
def I6 (l:List bI) (n:Nat) (key:Int) (lo hi:Nat):Prop:=(∀t,t<lo→ltI (hth l t).di key=true)∧∀t,hi≤t→t<n→ltI (hth l t).di key=false
theorem I6.pos {l:List bI} {n:Nat} {key:Int} {lo:Nat} (h:I6 l n key lo lo) (hn:l.length=n) (hlo:lo≤n):bB l key=lo:=
 sG _ l lo y2 (fun t ht=>by rw [List.getD_eq_getElem?_getD] at *;have:=h.1 t ht;exact this) (fun ht=>h.2 lo (Nat.le_refl _) y2)
theorem Ju (A:Option Addr) (n c:Nat) (l:List bI) (key:Int) (lo':Nat) (y:Bool) (w:World) (hl:dU w A n l) (hP:dQ l) (hn:n≤1000000000) (hlo':bB l key=lo') (hy:dL l key=y) :
 Calls prog 139 #[.slice A n c,.int .i64 key,.func (.func 140) #[] #[]] w fun e w'=>e=.returned (.tuple #[.int .i64 lo',.bool y])∧Below w w w':=by
 have HL:=ħ hl;have HN:=ħ hl.1;have HP:=ħ hP;have HLO:=ħ hlo';have HY:=ħ hy;clear hl hP hlo' hy;go_enter func139,ntmps139
 go_wp2_with fail
 go_loopw [9,10] (fun s7 s8 wr=>∃lo hi:Nat,s7=.int .i64 lo∧s8=.int .i64 hi∧lo≤hi∧hi≤n∧Hid (I6 l n key lo hi)∧Below w w wr) (fun s7 s8 _=>(intOf s8).toNat-(intOf s7).toNat)
 case atStart=>exact ⟨0,n,rfl,rfl,Nat.zero_le _,Nat.le_refl _,⟨fun t ht=>absurd ht (Nat.not_lt_zero _),fun t h1 h2=>by omega⟩,Below.refl _ _⟩
 case round=>
  obtain ⟨lo,hi,rfl,rfl,hlh,hin,I,hbw⟩:=hrel
  (obtain ⟨wx,hwx⟩:∃x,x=wr:=⟨_,rfl⟩);subst hwx
  by_cases hlt:lo<hi
  · obtain ⟨b,off,rfl,hb,hc⟩:=(HL.out.up hbw).2.2 y2;refine nm ((lo+hi) / 2) fun m hm=>?_;have hmn:m<n:=by omega
    obtain ⟨Bq,mq,dq,⟨c0,c1,c2,c3⟩,-⟩:=hc m hmn;have hd2:((lo:Int)+(hi:Int)) / 2=(m:Int):=by rw [hm];omega
    have hm2:m<hi:=by omega
    have hm1:lo≤m:=by omega
    have HM2:=ħ hm;clear hc hm;cases hbf:ltI (hth l m).di key
    · have hd:decide (pX (hth l m).di key<0)=false:=by rw [decide_eq_false_iff_not,An,hbf];simp
      have HB:=ħ hbf;clear hbf;go_wp2_with (go_at_call 140;refine (DZ (hth l m) Bq mq dq key _).mono ?_;rintro e w1 ⟨rfl,hb1⟩)
      (refine rnd ?_;(refine ⟨lo,m,rfl,by go_num,by omega,by omega,ħ ⟨I.out.1,fun t h1 h2=>?_⟩,aA hbw hb1⟩;rcases Nat.lt_or_ge m t with h5|h5;exact FO (HP.out m t h5 (by rw [HN.out];exact h2)) HB.out;(obtain rfl:t=m:=by omega);exact HB.out))
    · have hd:decide (pX (hth l m).di key<0)=true:=by rw [decide_eq_true_eq,An,hbf]
      have HB:=ħ hbf;clear hbf;go_wp2_with (go_at_call 140;refine (DZ (hth l m) Bq mq dq key _).mono ?_;rintro e w1 ⟨rfl,hb1⟩)
      (refine rnd ?_;(refine ⟨m+1,hi,by go_num,rfl,by omega,by omega,ħ ⟨fun t h1=>?_,I.out.2⟩,aA hbw hb1⟩;rcases Nat.lt_or_ge t m with h5|h5;exact BX (HP.out t m h5 (by rw [HN.out];exact hmn)) HB.out;(obtain rfl:t=m:=by omega);exact HB.out))
  · obtain rfl:hi=lo:=by omega
    have hpos:=I.out.pos HN.out hin;rw [HLO.out] at hpos;subst hpos;by_cases hln:lo'<n
    · obtain ⟨b,off,rfl,hb,hc⟩:=(HL.out.up hbw).2.2 y2;obtain ⟨Bq,mq,dq,⟨c0,c1,c2,c3⟩,-⟩:=hc lo' hln;clear hc
      have hyv:y=(pX (hth l lo').di key == 0):=by
       rw [←HY.out,Bool.eq_iff_iff];unfold dL;rw [HLO.out,bJ,beq_iff_eq,Ew,HN.out];exact ⟨fun h=>h.2,fun h=>⟨hln,h⟩⟩
      have HYV:=ħ hyv;clear hyv;go_wp2_with (go_at_call 140;refine (DZ (hth l lo') Bq mq dq key _).mono ?_;rintro e w1 ⟨rfl,hb1⟩)
      go_ret2
      exact ⟨by rw [HYV.out];rfl,aA hbw hb1⟩
    · have hh:y=false:=by
       rw [←HY.out];cases h:dL l key
       · rfl
       · have:=(bJ.1 h).1;rw [HN.out,HLO.out] at this;exact absurd this hln
      subst hh;go_wp2_with fail
      go_ret2
      exact ⟨rfl,hbw⟩
theorem BN.sorted {l:List bI} (h:BN l):dQ l:=by
 have step:∀j,j+1<l.length→(hth l j).di<(hth l (j+1)).di:=fun j hj=>by
  have:=(h (j+1) hj).2.2 y2;simpa using this
 have main:∀d i,i+d+1<l.length→(hth l i).di<(hth l (i+d+1)).di:=fun d=>by
  induction d with
  | zero=>intro i hi;exact step i hi
  | succ d ih=>intro i hi;have:=ih i y2;have:=step (i+d+1) y2;rw [show i+(d+1)+1=i+d+1+1 by omega];omega
 intro i j hij hj;have:=main (j-i-1) i y2;rw [show i+(j-i-1)+1=j by omega] at this;simpa [ltI] using this
theorem gZ (A:Option Addr) (n c:Nat) (l:List bI) (key:Int) (lo:Nat) (y:Bool) (w:World) (hl:dU w A n l) (hP:dQ l) (hn:n≤1000000000) (hlo:bB l key=lo) (hy:dL l key=y) :
 Calls prog 118 #[.slice A n c,.int .i64 key] w fun e w'=>e=.returned (.tuple #[.int .i64 lo,.bool y])∧Below w w w':=by
 have HL:=ħ hl;have HP:=ħ hP;clear hl hP;go_enter func118,ntmps118
 go_wp2_with fail
 refine (Ju A n c l key lo y _ (HL.out.up (aJ)) HP.out hn hlo hy).mono ?_;rintro e w1 ⟨rfl,hb1⟩;go_wp2_with fail
 go_ret2
 exact ⟨rfl,aJ⟩
theorem oB {l:List bI} {key:Int} {lo:Nat} (hlo:bB l key=lo) (h:dL l key=true):lo<l.length∧(hth l lo).di=key:=by
 subst hlo;exact bJ.1 h
theorem tZ {l:List bI} (hs:dQ l) {key:Int}:dL l key=true↔∃j,j<l.length∧(hth l j).di=key:=by
 constructor
 · intro h;exact ⟨_,(bJ.1 h)⟩
 · rintro ⟨j,hj,e⟩;refine bJ.2 ?_;have hpos:bB l key=j:=sG _ l j y2 (fun t ht=>by have:=hs t j ht hj;rw [e] at this;exact this) (fun _=>by show ltI (hth l j).di key=false;rw [e];simp [ltI]);rw [hpos];exact ⟨hj,e⟩
end
end Go.Proofs.YtgfakefcmbpboaaGreat
