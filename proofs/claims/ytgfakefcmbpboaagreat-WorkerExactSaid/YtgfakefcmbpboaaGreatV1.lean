/- Part 1 of what WorkerExact leans on. No conditions. -/
import Derived.Test.YtgfakefcmbpboaaGreatV0
namespace Go.Proofs.YtgfakefcmbpboaaGreat
set_option linter.all false
set_option maxRecDepth 100000
set_option maxHeartbeats 64000000
open _root_.Go.Proofs.Tryz Go.RowKit
section
open Go.RowKit
theorem aK {W w1:World} (hb:Below W W w1):(∀b o,b<W.heap.size→w1.cell? ⟨b,o,none⟩=W.cell? ⟨b,o,none⟩)∧(∀b o,b<W.heap.size→w1.frozen? ⟨b,o,none⟩=W.frozen? ⟨b,o,none⟩):=
 ⟨fun b o h=>hb.cell (p:=⟨b,o,none⟩) h,fun b o h=>hb.frozen (p:=⟨b,o,none⟩) h⟩
theorem aB {w x:World} {o:Obj} (h:Below w w x):Below w w (x.alloc o):=h.alloc h.size o
theorem aM {w x:World} (h:Below w w x):Below w w x.drew:=h.drew
theorem gV {w x:World} {n:Nat} (h:Below w w x):Below w w (x.drewN n):=⟨h.os,h.tape,h.output,h.size,h.block⟩
theorem aA {w x y:World} (h:Below w w x) (k:Below x x y):Below w w y:=h.trans (k.mono h.size)
theorem lO {w x:World} (h:Below w w x) {p:Addr} (hp:w.heap.size≤p.block) (v:Value):Below w w (x.setCell p v):=h.setCell hp v
theorem aJ {w x:World} (h:Below w.heap.size w x:=by (repeat (first|(with_reducible exact Below.refl _ _)|(with_reducible assumption)|(with_reducible apply aB)|(with_reducible apply aM)|(with_reducible apply gV)|(with_reducible refine aA ?_ (by with_reducible assumption))|(with_reducible refine aA ?_ (HF.out _))|(with_reducible refine lO ?_ (by simp) _)|(with_reducible refine lO ?_ (by simp;omega) _)|(with_reducible refine lO ?_ (by omega) _)))):Below w.heap.size w x:=h
theorem aQ {P:Program} {id:Nat} {Q:Exit→Act→World→Prop} {a:Act} {w:World} {l:List Oper} (hm:P.follows .mixedOrders=true) (hB:Region.lexB .any l.toArray=true)
 (h:∀(ι:Type) (F:ι→World),Nonempty ι→(∀n,Below w w (F n))→(∀n w',Below (F n).heap.size (F n) w'→∃m,w'=F m)→
  wpQuiet P l.toArray (fun w'=>∃n,w'=F n) (fun a'=>∀n,Q .normal a' (F n)) l a):(Code.region id l.toArray true).wp P Q a w:=by
 refine wp_region_quiet (C:=fun w'=>∃n:{w':World // Below w w w'},w'=n.1) hm hB ⟨⟨_,(Below.refl w.heap.size w).drew⟩,rfl⟩ ?_;have:=h {w':World // Below w w w'} (fun n=>n.1) ⟨⟨w,Below.refl _ _⟩⟩ (fun n=>n.2) (fun n w' hb=>⟨⟨w',n.2.trans (hb.mono n.2.size)⟩,rfl⟩)
 have e:(fun a'=>∀(n:{w':World // Below w w w'}),Q .normal a' n.1)=(fun a'=>∀w',(∃n:{w':World // Below w w w'},w'=n.1)→Q .normal a' w'):=by
  funext a'
  exact propext ⟨fun h w' ⟨n,hn⟩=>hn▸h n,fun h n=>h _ ⟨n,rfl⟩⟩
 rw [e] at this;simpa using this
theorem uY {P:Program} {ops:Array Oper} {C:World→Prop} {Q:Act→Prop} {a:Act} {o:Oper} {rest:List Oper} (j:Nat) (want b:Bool) (_:o.guard=some (j,want)) (_:yielded ops a.tmps j=some b)
 (h:∀b',b=b'→wpQuiet P ops C Q (o :: rest) a):wpQuiet P ops C Q (o :: rest) a:=h b rfl
theorem Calls.fam {P:Program} {f:FuncId} {args:Array Value} {ι:Type} {F:ι→World} (hcl:∀n w',Below (F n).heap.size (F n) w'→∃m,w'=F m) {n:ι} {v:Value}
 (h:Calls P f args (F n) fun e w'=>e=.returned v∧Below (F n).heap.size (F n) w'):Calls P f args (F n) fun e w''=>e=.returned v∧∃m,w''=F m:=
 h.mono fun _ _ ⟨he,hb⟩=>⟨he,hcl n _ hb⟩
theorem Calls.fam_same {P:Program} {f:FuncId} {args:Array Value} {ι:Type} {F:ι→World} {n:ι} {v:Value}
 (h:Calls P f args (F n) fun e w'=>e=.returned v∧F n=w'):Calls P f args (F n) fun e w''=>e=.returned v∧∃m,w''=F m:=
 h.mono fun _ _ ⟨he,hb⟩=>⟨he,n,hb.symm⟩
def nth (l:List Int) (j:Nat):Int:=l.getD j 0
theorem FC (l:List Int) (k:Nat) (h:k<l.length):l.drop k=nth l k :: l.drop (k+1):=by
 rw [List.drop_eq_getElem_cons h];simp [nth,h]
theorem jB (l:List Int) (k:Nat) (h:k<l.length):l.take (k+1)=l.take k ++ [nth l k]:=by
 rw [List.take_succ_eq_append_getElem h];simp [nth,h]
def aL (w:World) (A:Option Addr) (n:Nat) (l:List Int):Prop:=
 l.length=n∧n≤9223372036854775807∧(0<n→∃b off,A=some ⟨b,off,none⟩∧b<w.heap.size∧∀j,j<n→w.cell? ⟨b,off+j,none⟩=some (.int .i64 (nth l j)))
theorem aL.up {w w':World} {A n l} (h:aL w A n l) (hb:Below w w w'):aL w' A n l:=by
 obtain ⟨h1,h2,h3⟩:=h;refine ⟨h1,h2,fun hn=>?_⟩;obtain ⟨b,off,rfl,hlt,hc⟩:=h3 hn;exact ⟨b,off,rfl,Nat.lt_of_lt_of_le hlt hb.size,fun j hj=>(hb.cell (p:=⟨b,off+j,none⟩) hlt).trans (hc j hj)⟩
structure eG where
 au:Int
 ro:Int
 ba:List Int
 pa:List Int
structure mG where
 h:eG
 di:Int
 si:List Int
structure SlP where
 A:Option Addr
 n:Nat
 c:Nat
structure lM where
 b:SlP
 p:SlP
structure BL where
 h:lM
 s:SlP
instance:Inhabited eG:=⟨⟨0,0,[],[]⟩⟩
instance:Inhabited mG:=⟨⟨default,0,[]⟩⟩
instance:Inhabited SlP:=⟨⟨none,0,0⟩⟩
instance:Inhabited lM:=⟨⟨default,default⟩⟩
instance:Inhabited BL:=⟨⟨default,default⟩⟩
def dE (w:World) (p:lM) (H:eG):Prop:=aL w p.b.A p.b.n H.ba∧aL w p.p.A p.p.n H.pa
def iB (w:World) (p:BL) (C:mG):Prop:=dE w p.h C.h∧aL w p.s.A p.s.n C.si
theorem dE.up {w w':World} {p H} (h:dE w p H) (hb:Below w w w'):dE w' p H:=⟨h.1.up hb,h.2.up hb⟩
theorem iB.up {w w':World} {p C} (h:iB w p C) (hb:Below w w w'):iB w' p C:=⟨h.1.up hb,h.2.up hb⟩
theorem aH {b c:Bool} (h:b=c):Ending.returned (.bool b)=.returned (.bool c):=by rw [h]
theorem AA {k:IntKind} {a b:Int} (h:a=b):Ending.returned (.int k a)=.returned (.int k b):=by rw [h]
end
section
open Go.RowKit
def hC (n:Int) (e:MapEntry):Bool:=match e.key with|.int .i64 m=>m == n|_=>false
def IY (es:List MapEntry):Prop:=∀e∈es,∃n,e.key=.int .i64 n
def lk (es:List MapEntry) (n:Int):Option Value:=(es.find? (hC n)).map (·.val)
theorem vD (n:Int):∀(es:List MapEntry) (i:Nat),IY es→
 (Instr.findNow (.int .i64) (.int .i64 n) es i=some none∧lk es n=none∧∀e∈es,hC n e=false)∨
 ∃j e,es[j]? =some e∧hC n e=true∧(∀j' e',j'<j→es[j']? =some e'→hC n e'=false)∧Instr.findNow (.int .i64) (.int .i64 n) es i=some (some (i+j,e.val))∧lk es n=some e.val
 | [],i,_=>.inl ⟨rfl,rfl,fun e he=>by cases he⟩
 | e :: es,i,hk=>by
  obtain ⟨m,hm⟩:=hk e y17;have hs:Instr.sameNow (.int .i64) (.int .i64 n) e.key=some (n == m):=by rw [hm];rfl
  have hki:hC n e=(m == n):=by unfold hC;rw [hm]
  by_cases hnm:n=m
  · subst hnm;refine .inr ⟨0,e,rfl,by rw [hki];simp,fun j' e' h=>absurd h y2,?_,?_⟩
    · unfold Instr.findNow;rw [hs];simp
    · unfold lk;rw [List.find?_cons];simp [hki]
  · have h1:(n == m)=false:=by simp [hnm]
    have h2:hC n e=false:=by rw [hki];simp;exact fun h=>hnm h.symm
    have hf:Instr.findNow (.int .i64) (.int .i64 n) (e :: es) i=Instr.findNow (.int .i64) (.int .i64 n) es (i+1):=by
     rw [Instr.findNow];rw [hs,h1]
    have hl:lk (e :: es) n=lk es n:=by unfold lk;rw [List.find?_cons];simp [h2]
    rcases vD n es (i+1) (fun x hx=>hk x (by simp [hx])) with ⟨a,b,c⟩|⟨j,e',a,b,c,d,f⟩
    · refine .inl ⟨hf.trans a,hl.trans b,fun x hx=>?_⟩;rcases List.mem_cons.1 hx with rfl|hx
      · exact h2
      · exact c x hx
    · refine .inr ⟨j+1,e',by simpa using a,b,fun j' x hj hx=>?_,by rw [hf,d];congr 3;omega,hl.trans f⟩;cases j' with
      | zero=>simp at hx;subst hx;exact h2
      | succ j'=>exact c j' x y2 (by simpa using hx)
theorem zB (m n:Int) (v k:Value):∀(es:List MapEntry) (j:Nat) (e:MapEntry),es[j]? =some e→hC n e=true→k=.int .i64 n→(∀j' e',j'<j→es[j']? =some e'→hC n e'=false)→
 lk (es.modify j fun e=>{e with key:=k,val:=v}) m=if m=n then some v else lk es m
 | [],j,e,h,_,_,_=>by simp at h
 | x :: es,0,e,h,hk,hkk,hlt=>by
  simp at h;subst h
  have hx:∃q,x.key=.int .i64 q∧q=n:=by
   unfold hC at hk;split at hk
   · rename_i q hq;exact ⟨q,hq,by simpa using hk⟩
   · cases hk
  obtain ⟨q,hq,rfl⟩:=hx;simp only [List.modify_zero_cons];unfold lk;by_cases hm:m=q
  · subst hm;rw [if_pos rfl,List.find?_cons];simp [hC,hkk]
  · rw [if_neg hm,List.find?_cons,List.find?_cons];have e1:hC m x=false:=by unfold hC;rw [hq];simp;exact fun h=>hm h.symm
    have e2:hC m {x with key:=k,val:=v}=false:=by unfold hC;simp [hkk];exact fun h=>hm h.symm
    simp [e1,e2]
 | x :: es,j+1,e,h,hk,hkk,hlt=>by
  have h0:hC n x=false:=hlt 0 x y2 rfl;simp only [List.modify_succ_cons];have ih:=zB m n v k es j e (by simpa using h) hk hkk (fun j' e' hj he=>hlt (j'+1) e' y2 (by simpa using he));unfold lk at ih ⊢;rw [List.find?_cons,List.find?_cons];cases hx:hC m x
  · simpa using ih
  · simp;have:m≠n:=fun hmn=>by subst hmn;rw [h0] at hx;cases hx
    exact fun h=>absurd h this
def uH {α:Type} (enc:α→Value) (z:α) (w:World) (g:Nat) (S:Int→α):Prop:=
 ∃es clock,w.heap[g]? =some (.map es clock)∧IY es.toList∧∀n,(lk es.toList n).getD (enc z)=enc (S n)
section
variable {α:Type} {enc:α→Value} {z:α} {w:World} {g:Nat} {S:Int→α}
theorem uH.lt (h:uH enc z w g S):g<w.heap.size:=by
 obtain ⟨es,c,hb,_⟩:=h;rcases Nat.lt_or_ge g w.heap.size with h'|h'
 · exact h'
 · rw [Array.getElem?_eq_none h'] at hb;cases hb
theorem uH.made (w:World):uH enc z (w.alloc (.map #[] 0)) w.heap.size (fun _=>z):=by
 refine ⟨#[],0,?_,fun e he=>by simp at he,fun n=>rfl⟩;show (w.heap.push _)[w.heap.size]? =_;simp
theorem uH.made' {w:World} (hg:g=w.heap.size) (hS:S=fun _=>z):uH enc z (w.alloc (.map #[] 0)) g S:=by subst hg;subst hS;exact uH.made w
theorem uH.lookup {P:Program} {t kt et:TypeId} (h:uH enc z w g S) (ht:P.underlying t=some (.map kt et)) (hk:P.underlying kt=some (.int .i64)) (hz:(zeroValue et).run P w=.ok (enc z) w) (n:Int) :
 (Instr.lookup t (.map (some g)) (.int .i64 n) false).run P w=.ok (enc (S n)) w:=by
 obtain ⟨es,c,hb,hK,hS⟩:=h;have hS':=hS n
 have hc:∀b:Bool,(Instr.checkKey b 10000 kt (.int .i64 n)).run P w=.ok () w:=fun b=>by
  unfold Instr.checkKey;simp [run_underlying hk]
 have hfk:∀r,Instr.findNow (.int .i64) (.int .i64 n) es.toList 0=some r→(Instr.findKey kt (.int .i64 n) es.toList).run P w=.ok r w:=fun r hr=>by
  unfold Instr.findKey;simp [run_underlying hk,hr]
 rcases vD n es.toList 0 hK with ⟨a,b,_⟩|⟨j,e,_,_,_,d,f⟩
 · rw [b] at hS';simp [Instr.lookup,run_underlying ht,MapKept.run_getObj_map hb,hc,hfk _ a,hz,Result.andThen];simpa using hS'
 · rw [f] at hS';simp [Instr.lookup,run_underlying ht,MapKept.run_getObj_map hb,hc,hfk _ d,hz,Result.andThen];simpa using hS'
theorem Cy (m:Nat) (n:Int):Instr.sameBits m (.int .i64 n) (.int .i64 n)=true:=by cases m<;>simp [Instr.sameBits]
theorem uH.update {P:Program} {t kt et:TypeId} (h:uH enc z w g S) (ht:P.underlying t=some (.map kt et)) (hk:P.underlying kt=some (.int .i64)) (n:Int) (x:α) :
 ∃w',(Instr.mapUpdate t (.map (some g)) (.int .i64 n) (enc x)).run P w=.ok () w'∧uH enc z w' g (fun m=>if m=n then x else S m)∧w.grownBy w' (some g)∧w'.heap.size=w.heap.size:=by
 have hglt:=h.lt;obtain ⟨es,c,hb,hK,hS⟩:=h
 have hc:∀b:Bool,(Instr.checkKey b 10000 kt (.int .i64 n)).run P w=.ok () w:=fun b=>by
  unfold Instr.checkKey;simp [run_underlying hk]
 have hfk:∀r,Instr.findNow (.int .i64) (.int .i64 n) es.toList 0=some r→(Instr.findKey kt (.int .i64 n) es.toList).run P w=.ok r w:=fun r hr=>by
  unfold Instr.findKey;simp [run_underlying hk,hr]
 have hset:∀o:Obj,(∀a b d,o≠.cells a b d)→∀w1:World,w1={w with heap:=w.heap.setIfInBounds g o}→w.grownBy w1 (some g)∧w1.heap[g]? =some o:=fun o ho w1 e=>by
  subst e;refine ⟨⟨rfl,rfl,rfl,by simp,fun k hk hne=>?_⟩,?_⟩
  · simp only [Array.getElem?_setIfInBounds];rw [if_neg (fun e=>hne (by rw [e]))]
  · simp [Array.getElem?_setIfInBounds,hglt]
 rcases vD n es.toList 0 hK with ⟨a,b,hno⟩|⟨j,e,he,hki,hfirst,d,f⟩
 · obtain ⟨hg,hgg⟩:=hset (.map (es.push {key:=.int .i64 n,val:=enc x,born:=c}) (c+1)) y17 _ rfl;refine ⟨_,?_,⟨_,_,hgg,?_,?_⟩,hg,by simp⟩
   · simp [Instr.mapUpdate,run_underlying ht,MapKept.run_getObj_map hb,hc,hfk _ a,MapKept.run_setObj_map _ hb,Result.andThen]
   · intro y hy;simp at hy;rcases hy with hy|rfl
     · exact hK y (by simpa using hy)
     · exact ⟨n,rfl⟩
   · intro m
     have hl:lk (es.push {key:=.int .i64 n,val:=enc x,born:=c}).toList m=if m=n then some (enc x) else lk es.toList m:=by
      unfold lk;simp only [Array.toList_push,List.find?_append];by_cases hm:m=n
      · subst hm;have:es.toList.find? (hC m)=none:=List.find?_eq_none.2 (fun y hy=>by rw [hno y hy];simp);simp [this,hC]
      · have:[({key:=.int .i64 n,val:=enc x,born:=c}:MapEntry)].find? (hC m)=none:=by
         simp [hC];exact fun h=>hm h.symm
        simp [this,hm]
     rw [hl];by_cases hm:m=n
     · simp [hm]
     · simp [hm];exact hS m
 · obtain ⟨q,hq⟩:=hK e (List.mem_of_getElem? he);have hqn:q=n:=by unfold hC at hki;rw [hq] at hki;simpa using hki
   subst hqn;obtain ⟨hg,hgg⟩:=hset (.map (es.modify j fun e=>{e with key:=.int .i64 q,val:=enc x}) c) y17 _ rfl;refine ⟨_,?_,⟨_,_,hgg,?_,?_⟩,hg,by simp⟩
   · have hej:es[j]? =some e:=by simpa using he
     simp only [Nat.zero_add] at d;simp [Instr.mapUpdate,run_underlying ht,MapKept.run_getObj_map hb,hc,hfk _ d,hej,Instr.keyThatStays,hq,Cy,MapKept.run_setObj_map _ hb,Result.andThen]
   · intro y hy;simp only [Array.toList_modify] at hy;obtain ⟨i,hi,rfl⟩:=List.mem_iff_getElem.1 hy;rw [List.getElem_modify];split
     · exact ⟨q,rfl⟩
     · exact hK _ (List.getElem_mem _)
   · intro m;rw [Array.toList_modify,zB m q (enc x) (.int .i64 q) es.toList j e he hki rfl hfirst];by_cases hm:m=q
     · simp [hm]
     · simp [hm];exact hS m
end
theorem BK {α:Type} (enc:α→Value) (z:α) {P:Program} {w:World} {ops:Array Oper} {rest:List Oper} {o:Oper} {a:Act} {Q:Exit→Act→World→Prop}
 (hg:o.guard=none) (m x v:Operand) (t kt et:TypeId) (hop:o.op=Op.mapUpdate t m x v∨o.op=Op.insert t m x v) (ht:P.underlying t=some (.map kt et)) (hk:P.underlying kt=some (.int .i64))
 {g:Nat} {S:Int→α} (hR:uH enc z w g S) (hm:a.eval m=.map (some g)) (n:Int) (hx:a.eval x=.int .i64 n) (y:α) (hv:a.eval v=enc y)
 (hK:∀w',uH enc z w' g (fun m=>if m=n then y else S m)→w.grownBy w' (some g)→w'.heap.size=w.heap.size→wpList P ops Q rest (a.put o.dst undef) w'):wpList P ops Q (o :: rest) a w:=by
 refine wpList_plain hg fun K' hK'=>?_;obtain ⟨w',hrun,r1,r2,r3⟩:=hR.update ht hk n y;unfold Oper.wp;rcases hop with hop|hop
 · simp [execOp,hop,hm,hx,hv,hrun,Result.andThen];exact hK' _ _ (hK w' r1 r2 r3)
 · simp [execOp,hop,hm,hx,hv,hrun,Result.andThen];exact hK' _ _ (hK w' r1 r2 r3)
theorem EP {w x y:World} {g:Nat} (h:Below w w x) (hg:x.grownBy y (some g)) (hB:w.heap.size≤g):Below w w y:=
 h.grown hg h.size (fun k hk=>by injection hk with hk;omega)
def bX (w:World) (g:Nat) (cs:List Value):Prop:=g<w.heap.size∧∀j v,cs[j]? =some v→w.cell? ⟨g,j,none⟩=some v
theorem bX.up {w w':World} {g cs} (h:bX w g cs) (hb:Below w w w'):bX w' g cs:=
 ⟨Nat.lt_of_lt_of_le h.1 hb.size,fun j v hv=>(hb.cell (p:=⟨g,j,none⟩) h.1).trans (h.2 j v hv)⟩
theorem bX.new (w:World) (cs:List Value) (t:TypeId):bX (w.alloc (.cells cs.toArray t)) w.heap.size cs:=by
 refine ⟨by simp,fun j v hv=>?_⟩;simp [hv]
end
section
open Go.RowKit
def aE (w:World) (B:Nat) (v:Value) (l:List Int):Prop:=w.ownsRow B 3 1 v l.length (l.map (Value.int .i64))
section
variable {w w':World} {B:Nat} {v:Value} {l:List Int}
theorem aE.nil (w:World) (B:Nat):aE w B (.slice none 0 0) []:=World.ownsRow_nil w B _ _
theorem aE.of_heap (h:aE w B v l) (hh:∀g,v.ownBlock=some g→w'.heap[g]? =w.heap[g]?):aE w' B v l:=by
 refine ⟨h.1,?_⟩;rcases h.2 with hn|⟨g,cap,cur,rfl,hb,hgg,rest⟩
 · exact .inl hn
 · exact .inr ⟨g,cap,cur,rfl,hb,(hh g rfl).trans hgg,rest⟩
theorem aE.lt (h:aE w B v l):∀k,v.ownBlock=some k→B≤k∧k<w.heap.size:=World.ownsRow.lt h
theorem aE.up (h:aE w B v l) (hb:Below w w w'):aE w' B v l:=h.of_heap fun g hg=>hb.block g (h.lt g hg).2
theorem aE.alloc (h:aE w B v l) (o:Obj):aE (w.alloc o) B v l:=h.up ((Below.refl _ _).alloc (Nat.le_refl _) _)
theorem aE.set (h:aE w B v l) {p:Addr} (hp:p.block<B) (u:Value):aE (w.setCell p u) B v l:=h.of_heap fun g hg=>Below.heap_setCell _ _ _ _ (by have:=(h.lt g hg).1;omega)
theorem aE.mono {B':Nat} (h:aE w B v l) (hB:B'≤B):aE w B' v l:=by
 refine ⟨h.1,?_⟩;rcases h.2 with hn|⟨g,cap,cur,rfl,hb,rest⟩
 · exact .inl hn
 · exact .inr ⟨g,cap,cur,rfl,by omega,rest⟩
theorem aE.ints (h:aE w B v l) (hl:l.length≤9223372036854775807):∃A c,v=.slice A l.length c∧aL w A l.length l∧(∀b off sp,A=some ⟨b,off,sp⟩→B≤b):=by
 rcases h.2 with ⟨rfl,hn⟩|⟨g,cap,cur,rfl,hb,hgg,rest⟩
 · have hl0:l=[]:=by simpa using hn
   subst hl0;exact ⟨none,0,rfl,⟨rfl,by simp,fun h=>absurd h y17⟩,fun b off sp e=>by cases e⟩
 · refine ⟨_,_,rfl,⟨rfl,hl,fun _=>⟨g,0,rfl,(Array.getElem?_eq_some_iff.1 hgg).1,fun j hj=>?_⟩⟩,fun b off sp e=>by injection e with e;injection e with e1 e2 e3;omega⟩;have:=World.ownsRow.cells h (g:=g) rfl j (.int .i64 (nth l j)) (by simp [nth,hj]);simpa [Addr.add_lit] using this
end
theorem wY:(prog.info? 3).map (fun i=>(i.zero,i.size,i.bytes))=some (some (.int .i64 0),1,8):=by kernel_rfl
theorem eH (w:World) (x:Value) (t:TypeId):(w.alloc (.cells #[x] t)).cell? ⟨w,0,none⟩=some x:=by simp
theorem fE {w:World} {o:Obj} {B:Nat} (h:B≤w.heap.size):B≤(w.alloc o).heap.size:=by simp;omega
theorem fJ {w:World} {ops:Array Oper} {rest:List Oper} {o:Oper} {a:Act} {Q:Exit→Act→World→Prop} (hgd:o.guard=none) (s x:Operand)
 (ho:o.op=.call {callee:=.builtin .append,args:=#[s,x],argTypes:=#[25,25]})
 (B:Nat) (v:Value) (l:List Int) (hs:a.eval s=v) (hown:aE w B v l) (g:Nat) (y:Int) (hx:a.eval x=.slice (some ⟨g,0,none⟩) 1 1) (hc:w.cell? ⟨g,0,none⟩=some (.int .i64 y))
 (hlen:l.length≤1000000000) (hB:B≤w.heap.size)
 (h:∀v' w',aE w' B v' (l ++ [y])→w.grownBy w' v.ownBlock→Below B w w'→(v'.ownBlock=v.ownBlock∨v'.ownBlock=some w.heap.size)→wpList prog ops Q rest (a.put o.dst v') w'):wpList prog ops Q (o :: rest) a w:=by
 obtain ⟨i0,hi,hz,hz1,hz2⟩:=info_parts wY;refine wpList_plain hgd fun K hK=>?_
 obtain ⟨v',w',hrun,h2,h3,_,h5⟩:=run_append_own_at (P:=prog) w B 25 o.type 3 i0 (.int .i64 0) 1 8 underlying25 hi hz hz1 hz2 rfl y2 v l.length (l.map (Value.int .i64)) hown ⟨g,0,none⟩ 1 1 [.int .i64 y] rfl
  (by
   intro j u hu;cases j with
   | zero=>simp at hu;subst hu;simpa [Addr.add] using hc
   | succ j=>simp at hu) y16 y59 y2 hB
 have hown':aE w' B v' (l ++ [y]):=by unfold aE;simpa using h2
 have hbel:Below B w w':=⟨h3.os,h3.tape,h3.output,h3.size,fun k hk=>h3.block k y2 (fun e=>by have:=(hown.lt k e.symm).1;omega)⟩;unfold Oper.wp execOp;simp only [ho,resolve,invoke,builtin,Sem.run_bind,Sem.run_pure,Result.andThen_ok,List.map_toArray,List.map_cons,List.map_nil,hs,hx,hrun];exact hK _ _ (h v' w' hown' h3 hbel h5)
def Blk (w:World) (g:Nat) (t:TypeId) (cs:List Value):Prop:=w.heap[g]? =some (.cells cs.toArray t (0,0))
section
variable {w w':World} {g:Nat} {t:TypeId} {cs:List Value}
theorem Blk.lt (h:Blk w g t cs):g<w.heap.size:=by
 rcases Nat.lt_or_ge g w.heap.size with hlt|hge
 · exact hlt
 · unfold Blk at h;rw [Array.getElem?_eq_none hge] at h;cases h
theorem Blk.box (h:Blk w g t cs):bX w g cs:=⟨h.lt,fun j v hv=>by unfold Blk at h;simp [World.cell?,h,hv]⟩
theorem Blk.frozen (h:Blk w g t cs) (i:Nat):w.frozen? ⟨g,i,none⟩=false:=by unfold Blk at h;simp [World.frozen?,h]
theorem Blk.new (w:World) (t:TypeId) (cs:List Value):Blk (w.alloc (.cells cs.toArray t)) w.heap.size t cs:=heap_alloc_new w _
theorem Blk.of_heap (h:Blk w g t cs) (hh:w'.heap[g]? =w.heap[g]?):Blk w' g t cs:=hh.trans h
theorem Blk.up (h:Blk w g t cs) (hb:Below w w w'):Blk w' g t cs:=h.of_heap (hb.block g h.lt)
theorem Blk.below {B:Nat} (h:Blk w g t cs) (hb:Below B w w') (hg:g<B):Blk w' g t cs:=h.of_heap (hb.block g hg)
theorem Blk.far (h:Blk w g t cs) {p:Addr} (hp:g≠p.block) (u:Value):Blk (w.setCell p u) g t cs:=h.of_heap (Below.heap_setCell w p u g hp)
theorem Blk.set_ (h:Blk w g t cs) (i:Nat) (u:Value):Blk (w.setCell ⟨g,i,none⟩ u) g t (cs.set i u):=by
 unfold Blk at h ⊢;simp [World.setCell,Array.getElem?_modify,h]
end
section
variable {P:Program} {a:Act} {w:World} {Q:Exit→Act→World→Prop}
theorem DO {c:Code} (h:c.wp P Q a w):(Code.seq .skip c).wp P Q a w:=wp_seq (wp_skip h)
theorem uZ {c b1:Code} (l1:Nat) (J1:Act→World→Prop) (μ:Act→World→Nat) (hf1:findLabel c l1=some (.seq .skip b1))
 (first:(∀a w,J1 a w→b1.wp P (Exit.jump l1 J1 Q) a w)→c.wp P (Exit.jump l1 J1 Q) a w)
 (pass:∀a w,J1 a w→b1.wp P (Exit.jump l1 (fun a' w'=>J1 a' w'∧μ a' w'<μ a w) Q) a w):(Code.scope c).wp P Q a w:=
 wp_scope_jumps l1 J1 μ hf1 (first fun a w hJ=>Code.wp_mono (fun e a w hq=>by
  cases e with
  | goto l=>exact ⟨hq.1,hq.2.1⟩
  | _=>exact hq) (pass a w hJ)) (fun a w h=>DO (pass a w h))
end
end
section
open Go.RowKit
theorem fB {P:Program} (w:World) (dT sT ty elem:TypeId) (g o dLen dCap:Nat) (a:Addr) (sLen sCap k:Nat) (cur:Array Value) (t:TypeId) (cs:List Value)
 (hu:P.underlying dT=some (.slice elem)) (hs:(P.info? elem).map (·.size)=some k)
 (hg:w.heap[g]? =some (.cells cur t (0,0))) (hn:cs.length=Nat.min sLen dLen*k)
 (hsrc:∀j v,cs[j]? =some v→w.cell? (a.add j)=some v) (hfit:o+cs.length≤cur.size) (h1:∀v∈cs,v.oneCell'=true) :
 (Builtin.copy_ #[dT,sT] ty #[.slice (some ⟨g,o,none⟩) dLen dCap,.slice (some a) sLen sCap]).run P w=
  .ok (goInt (Nat.min sLen dLen)) (w.setRow g (cur.toList.take o ++ cs ++ cur.toList.drop (o+cs.length)).toArray):=by
 have hl:=run_loadCells_list (P:=P) w a cs hsrc;have hst:=run_storeCells_at P g o t cs 0 cur w hg (by simpa using hfit) h1;cases hq:P.info? elem with
 | none=>simp [hq] at hs
 | some i=>
  have hi:i.size=k:=by simpa [hq] using hs
  simp [Builtin.copy_,run_underlying hu,Builtin.lenOf,Builtin.firstCells,sizeOf,typeInfo,hq,hi,← hn,hl,hst]
theorem CK {P:Program} (w:World) {o:Oper} {a:Act} {K:Act→World→Prop} {Q:Exit→Act→World→Prop} (d s:Operand) (t t':TypeId)
 (ho:o.op=.call {callee:=.builtin .copy,args:=#[d,s],argTypes:=#[t,t']}) (v u:Value) (hd:a.eval d=v) (hs:a.eval s=u) {v':Value} {w':World}
 (hr:(Builtin.copy_ #[t,t'] o.type #[v,u]).run P w=.ok v' w') (h:K (a.put o.dst v') w'):o.wp P a w K Q:=by
 unfold Oper.wp execOp;simp only [ho,resolve,invoke,builtin,Sem.run_bind,Sem.run_pure,Result.andThen_ok,List.map_toArray,List.map_cons,List.map_nil,hd,hs,hr];exact h
theorem fO {P:Program} {ops:Array Oper} {o:Oper} {a:Act} {w:World} {K:Act→World→Prop} {Q:Exit→Act→World→Prop} {E:Prop}
 (hg:o.guard=none) (d x:Operand) (dT sT:TypeId) (hop:o.op=Op.call {callee:=Callee.builtin Builtin.copy,args:=#[d,x],argTypes:=#[dT,sT]})
 (v u:Value) (hd:a.eval d=v) (hx:a.eval x=u) {v':Value} {w':World} (hr:(Builtin.copy_ #[dT,sT] o.type #[v,u]).run P w=.ok v' w') (hK:K (a.put o.dst v') w') :
 if Region.wanted o (yielded ops a.tmps)=true then Oper.wp P o a w K Q else E:=by
 have hw:Region.wanted o (yielded ops a.tmps)=true:=by simp [Region.wanted,hg]
 rw [if_pos hw];exact CK w d x dT sT hop v u hd hx hr hK
theorem Ch {α:Type} {a N k:Nat} {xs e R:List α} (hx:xs.length=N) (he:e.length=k) (ha:a≤N) (hR:R.take a=xs.take a) (hl:N+k≤R.length) :
 ((R.take a ++ e ++ R.drop (a+e.length)).take (a+k) ++ xs.drop a ++ (R.take a ++ e ++ R.drop (a+e.length)).drop (a+k+(xs.drop a).length)).take (N+k)=xs.take a ++ e ++ xs.drop a∧
 ((R.take a ++ e ++ R.drop (a+e.length)).take (a+k) ++ xs.drop a ++ (R.take a ++ e ++ R.drop (a+e.length)).drop (a+k+(xs.drop a).length)).length=R.length:=by
 have h1:(R.take a ++ e).length=a+k:=by rw [List.length_append,List.length_take,he];omega
 have h2:(R.take a ++ e ++ R.drop (a+e.length)).take (a+k)=xs.take a ++ e:=by rw [List.take_left' h1,hR]
 constructor
 · rw [h2];refine List.take_left' ?_;simp only [List.length_append,List.length_take,List.length_drop];omega
 · rw [h2];simp only [List.length_append,List.length_take,List.length_drop];omega
theorem AR {α:Type} {a N k:Nat} {xs e R:List α} (hx:xs.length=N) (he:e.length=k) (ha:a≤N) (hR:R.take N=xs) (hl:N+k≤R.length) :
 ((R.take (a+k) ++ xs.drop a ++ R.drop (a+k+(xs.drop a).length)).take a ++ e ++ (R.take (a+k) ++ xs.drop a ++ R.drop (a+k+(xs.drop a).length)).drop (a+e.length)).take (N+k)=xs.take a ++ e ++ xs.drop a∧
 ((R.take (a+k) ++ xs.drop a ++ R.drop (a+k+(xs.drop a).length)).take a ++ e ++ (R.take (a+k) ++ xs.drop a ++ R.drop (a+k+(xs.drop a).length)).drop (a+e.length)).length=R.length:=by
 have hd:(xs.drop a).length=N-a:=by rw [List.length_drop,hx]
 have h0:(R.take (a+k)).length=a+k:=by rw [List.length_take];omega
 have h1:(R.take (a+k) ++ xs.drop a ++ R.drop (a+k+(xs.drop a).length)).take a=xs.take a:=by
  rw [List.append_assoc,List.take_append_of_le_length y2,List.take_take,← hR,List.take_take]
  congr 1;omega
 have h2:(R.take (a+k) ++ xs.drop a ++ R.drop (a+k+(xs.drop a).length)).drop (a+e.length)=xs.drop a ++ R.drop (a+k+(xs.drop a).length):=by
  rw [List.append_assoc,he,List.drop_left' h0]
 rw [h1,h2];constructor
 · rw [←List.append_assoc];refine List.take_left' ?_;simp only [List.length_append,List.length_take,hd];omega
 · simp only [List.length_append,List.length_take,List.length_drop,hd];omega
def iI (w:World) (A:Option Addr) (n k:Nat) (xs:List Value):Prop:=
 xs.length=n*k∧n≤9223372036854775807∧(0<n→∃b off,A=some ⟨b,off,none⟩∧b<w.heap.size∧∀j u,xs[j]? =some u→w.cell? ⟨b,off+j,none⟩=some u)
theorem iI.up {w w':World} {A n k xs} (h:iI w A n k xs) (hb:Below w w w'):iI w' A n k xs:=by
 obtain ⟨h1,h2,h3⟩:=h;refine ⟨h1,h2,fun hn=>?_⟩;obtain ⟨b,off,rfl,hlt,hc⟩:=h3 hn;exact ⟨b,off,rfl,Nat.lt_of_lt_of_le hlt hb.size,fun j u hj=>(hb.cell (p:=⟨b,off+j,none⟩) hlt).trans (hc j u hj)⟩
theorem dC {w:World} {B k n:Nat} {t:TypeId} {v:Value} {xs:List Value} (h:w.ownsRow B t k v n xs) (hn:n≤9223372036854775807):∃A c,v=.slice A n c∧iI w A n k xs∧(∀b off sp,A=some ⟨b,off,sp⟩→B≤b)∧n≤c∧c≤9223372036854775807:=by
 rcases h.2 with ⟨rfl,rfl⟩|⟨g,cap,cur,rfl,hb,hg,hnc,hcm,hsz,htk⟩
 · exact ⟨none,0,rfl,⟨h.1,by omega,fun h=>absurd h y2⟩,(fun b off sp e=>by cases e),by omega,by omega⟩
 · refine ⟨_,_,rfl,⟨h.1,hn,fun _=>⟨g,0,rfl,(Array.getElem?_eq_some_iff.1 hg).1,fun j u hj=>?_⟩⟩,(fun b off sp e=>by injection e with e;injection e with e1 e2 e3;omega),hnc,by simpa [maxLen] using hcm⟩;have:=World.ownsRow.cells h (g:=g) rfl j u hj;simpa [Addr.add_lit] using this
theorem bV {w:World} {B k n:Nat} {t:TypeId} {v:Value} {xs:List Value} (h:w.ownsRow B t k v n xs):∀g,v.ownBlock=some g→B≤g∧g<w.heap.size:=World.ownsRow.lt h
theorem jZ {w w':World} {B k n:Nat} {t:TypeId} {v:Value} {xs:List Value} (h:w.ownsRow B t k v n xs) (hh:∀g,v.ownBlock=some g→w'.heap[g]? =w.heap[g]?):w'.ownsRow B t k v n xs:=by
 refine ⟨h.1,?_⟩;rcases h.2 with hn|⟨g,cap,cur,rfl,hb,hgg,rest⟩
 · exact .inl hn
 · exact .inr ⟨g,cap,cur,rfl,hb,(hh g rfl).trans hgg,rest⟩
theorem bS {w w':World} {B k n:Nat} {t:TypeId} {v:Value} {xs:List Value} (h:w.ownsRow B t k v n xs) (hb:Below w w w'):w'.ownsRow B t k v n xs:=jZ h fun g hg=>hb.block g (bV h g hg).2
theorem Fb {w:World} {B k n:Nat} {t:TypeId} {v:Value} {xs:List Value} (h:w.ownsRow B t k v n xs) (o:Obj):(w.alloc o).ownsRow B t k v n xs:=bS h ((Below.refl _ _).alloc (Nat.le_refl _) _)
theorem IM {w:World} {B k n:Nat} {t:TypeId} {v:Value} {xs:List Value} (h:w.ownsRow B t k v n xs) {p:Addr} (hp:p.block<B) (u:Value):(w.setCell p u).ownsRow B t k v n xs:=jZ h fun g hg=>Below.heap_setCell _ _ _ _ (by have:=(bV h g hg).1;omega)
theorem aZ {w:World} {B B' k n:Nat} {t:TypeId} {v:Value} {xs:List Value} (h:w.ownsRow B t k v n xs) (hB:B'≤B):w.ownsRow B' t k v n xs:=by
 refine ⟨h.1,?_⟩;rcases h.2 with hn|⟨g,cap,cur,rfl,hb,rest⟩
 · exact .inl hn
 · exact .inr ⟨g,cap,cur,rfl,by omega,rest⟩
theorem xJ (w:World) (B k:Nat) (t:TypeId):w.ownsRow B t k (.slice none 0 0) 0 []:=World.ownsRow_nil w B _ _
def eN {α:Type} (enc:α→List Value) (l:List α):List Value:=(l.map enc).flatten
section
variable {α:Type} {enc:α→List Value} {k:Nat} (hk:∀x,(enc x).length=k)
include hk
theorem jU:∀(l:List α),(eN enc l).length=l.length*k
 | []=>by simp [eN]
 | x :: l=>by
  have:=jU l;unfold eN at this ⊢;rw [List.map_cons,List.flatten_cons,List.length_append,this,hk,List.length_cons,Nat.succ_mul];omega
theorem yE:∀(l:List α) (i:Nat),eN enc (l.take i)=(eN enc l).take (i*k)
 | [],i=>by simp [eN]
 | x :: l,0=>by simp [eN]
 | x :: l,i+1=>by
  have:=yE l i;unfold eN at this ⊢;rw [List.take_succ_cons,List.map_cons,List.flatten_cons,this,List.map_cons,List.flatten_cons,List.take_append,hk,List.take_of_length_le (l:=enc x) (by rw [hk,Nat.succ_mul];omega)]
  congr 2
  rw [Nat.succ_mul];omega
theorem tX:∀(l:List α) (i:Nat),eN enc (l.drop i)=(eN enc l).drop (i*k)
 | [],i=>by simp [eN]
 | x :: l,0=>by simp [eN]
 | x :: l,i+1=>by
  have:=tX l i;unfold eN at this ⊢;rw [List.drop_succ_cons,this,List.map_cons,List.flatten_cons,List.drop_append,hk,List.drop_of_length_le (l:=enc x) (by rw [hk,Nat.succ_mul];omega),List.nil_append]
  congr 1
  rw [Nat.succ_mul];omega
theorem Cc [Inhabited α]:∀(l:List α) (j r:Nat),j<l.length→r<k→(eN enc l)[j*k+r]? =(enc (l.getD j default))[r]?
 | [],j,r,hj,_=>absurd hj y17
 | x :: l,0,r,_,hr=>by
  unfold eN;rw [List.map_cons,List.flatten_cons,Nat.zero_mul,Nat.zero_add,List.getElem?_append_left (by rw [hk];exact hr)];rfl
 | x :: l,j+1,r,hj,hr=>by
  have:=Cc l j r (by simpa using hj) hr;unfold eN at this ⊢;rw [List.map_cons,List.flatten_cons,List.getElem?_append_right (by rw [hk,Nat.succ_mul];omega),hk,show (j+1)*k+r-k=j*k+r by rw [Nat.succ_mul];omega,this];rfl
end
theorem C0 {α:Type} (enc:α→List Value) (l m:List α):eN enc (l ++ m)=eN enc l ++ eN enc m:=by simp [eN]
theorem pY {α:Type} {enc:α→List Value} (h:∀x,∀u∈enc x,u.oneCell'=true) (l:List α):∀u∈eN enc l,u.oneCell'=true:=fun u hu=>by
 unfold eN at hu;rw [List.mem_flatten] at hu;obtain ⟨c,hc,hu⟩:=hu;rw [List.mem_map] at hc;obtain ⟨x,_,rfl⟩:=hc;exact h x u hu
end
section
open Go.RowKit
def pX (a b:Int):Int:=if a<b then -1 else if b<a then 1 else 0
end
section
open Go.RowKit
open Classical in
noncomputable def dec (p:Prop):Bool:=decide p
theorem bJ {p:Prop}:dec p=true↔p:=by simp [dec]
theorem sJ {p:Prop} (h:p):true=dec p:=(bJ.2 h).symm
theorem dV {p:Prop} (h:¬p):false=dec p:=by simp [dec,h]
def fX (d:Int):Bool:=decide (1≤d∧d≤65536)
theorem wV {d:Int}:fX d=true↔(1≤d∧d≤65536):=by simp [fX]
theorem nV (d:Int) (w:World):Calls prog 110 #[.int .i64 d] w fun e w'=>e=.returned (.bool (fX d))∧w=w':=by
 go_enter func110,ntmps110
 go_wp2
 all_goals (go_ret;refine ⟨aH ?_,rfl⟩;rw [Bool.eq_iff_iff,wV];simp;try omega)
theorem sN (d:Int) (w:World):Calls prog 36 #[.int .i64 d] w fun e w'=>e=.returned (.bool (fX d))∧w=w':=by
 go_enter func36,ntmps36
 go_wp2
 all_goals (go_ret;refine ⟨aH ?_,rfl⟩;rw [Bool.eq_iff_iff,wV];simp;try omega)
end
section
open Go.RowKit Go.ChangeShapes Go.WideShapes Go.ChangeAt
theorem EB {α:Type} {l:List α} (h:l.length=2):∃a0 a1,l=[a0,a1]:=by
 match l,h with
 | [a0,a1],_=>exact ⟨a0,a1,rfl⟩
theorem FN {α:Type} {l:List α} (h:l.length=3):∃a0 a1 a2,l=[a0,a1,a2]:=by
 match l,h with
 | [a0,a1,a2],_=>exact ⟨a0,a1,a2,rfl⟩
theorem Db {α:Type} {l:List α} (h:l.length=4):∃a0 a1 a2 a3,l=[a0,a1,a2,a3]:=by
 match l,h with
 | [a0,a1,a2,a3],_=>exact ⟨a0,a1,a2,a3,rfl⟩
section
variable {H:Type} {enc:TypeId×Value→H} {w:World} {base:Nat} {spare:Nat→Bool} {held:Bool}
theorem dN {fuel:Nat} {cs:List Value} {x:DataW H×List MemPlace} (h:DataW.trod enc prog w base spare held fuel 3 cs=some x):∃z,cs=[.int .i64 z]:=by
 obtain ⟨z,hz,_⟩:=DataW.trod_int underlying3 h;exact ⟨z,hz⟩
theorem bC:prog.cellsOf 3=1:=by kernel_rfl
theorem iJ:prog.cellsOf 25=1:=by kernel_rfl
end
end
section
open Go.RowKit
theorem Ay {w:World} {B k n c g j:Nat} {t:TypeId} {xs:List Value} {u:Value} (h:w.ownsRow B t k (.slice (some ⟨g,0,none⟩) n c) n xs) (hj:j<n*k):(w.setCell ⟨g,j,none⟩ u).ownsRow B t k (.slice (some ⟨g,0,none⟩) n c) n (xs.set j u):=by
 obtain ⟨h1,h2⟩:=h;refine ⟨by simpa using h1,?_⟩;rcases h2 with ⟨e,_⟩|⟨g',cap,cur,e,hb,hg,hc,hm,hs,ht⟩
 · cases e
 · injection e with e1 e2 e3;injection e1 with e1;injection e1 with e1;subst e1;subst e3;refine .inr ⟨g,c,cur.setIfInBounds j u,rfl,hb,?_,hc,hm,by simpa using hs,?_⟩
   · simp [World.setCell,Array.getElem?_modify,hg]
   · rw [Array.toList_setIfInBounds,← ht];apply List.ext_getElem?;intro q;simp only [List.getElem?_take,List.getElem?_set,List.length_take];by_cases hq:q<n*k
     · simp only [hq,if_true];by_cases hqj:j=q
       · subst hqj;have hcl:cur.toList.length=c*k:=by simpa using hs
         have:n*k≤c*k:=Nat.mul_le_mul_right _ hc;simp [show j<cur.size by omega,hj];omega
       · simp [hqj]
     · have hqj:¬j=q:=by omega
       simp [hq,hqj]
theorem lQ {w:World} {B k n c g:Nat} {t:TypeId} {xs:List Value} (h:w.ownsRow B t k (.slice (some ⟨g,0,none⟩) n c) n xs):(∀j u,xs[j]? =some u→w.cell? ⟨g,j,none⟩=some u)∧∀j,w.frozen? ⟨g,j,none⟩=false:=by
 refine ⟨fun j u hj=>?_,fun j=>?_⟩
 · have:=World.ownsRow.cells h (g:=g) rfl j u hj;simpa [Addr.add_lit] using this
 · rcases h.2 with ⟨e,_⟩|⟨g',cap,cur,e,hb,hg,_⟩
   · cases e
   · injection e with e1 e2 e3;injection e1 with e1;injection e1 with e1;subst e1;simp [World.frozen?,hg]
theorem eD {w:World} {B k n:Nat} {t:TypeId} {v:Value} {xs:List Value} (h:w.ownsRow B t k v n xs):(v=.slice none 0 0∧n=0)∨∃g c,v=.slice (some ⟨g,0,none⟩) n c∧B≤g∧n≤c:=by
 rcases h.2 with h|⟨g,cap,cur,rfl,hb,_,hc,_⟩
 · exact .inl h
 · exact .inr ⟨g,cap,rfl,hb,hc⟩
end
end Go.Proofs.YtgfakefcmbpboaaGreat
