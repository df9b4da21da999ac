/- Part 2 of what WorkerExact leans on. No conditions. -/
import Derived.Test.YtgfakefcmbpboaaGreatV1
namespace Go.Proofs.YtgfakefcmbpboaaGreat
set_option linter.all false
set_option maxRecDepth 100000
set_option maxHeartbeats 64000000
open _root_.Go.Proofs.Tryz Go.RowKit
section
open Go.RowKit
theorem uR (x:Int) (w:World):Calls prog 157 #[.int .i64 x] w fun e w'=>e=.returned (.bool false)∧w=w':=by
 go_enter func157,ntmps157
 go_wp2
 go_ret
 exact ⟨aH y17,rfl⟩
theorem rR (a b:Int) (w:World):Calls prog 141 #[.int .i64 a,.int .i64 b] w fun e w'=>e=.returned (.int .i64 (pX a b))∧w=w':=by
 rcases Int.lt_trichotomy a b with h|h|h
 case' inl=>
  have hc:pX a b=-1:=by unfold pX;rw [if_pos h]
  have d1:decide (a<b)=true:=by simpa using h
 case' inr.inl=>
  have hc:pX a b=0:=by unfold pX;rw [if_neg y2,if_neg y2]
  have d1:decide (a<b)=false:=by simp;omega
  have d2:decide (b<a)=false:=by simp;omega
 case' inr.inr=>
  have hc:pX a b=1:=by unfold pX;rw [if_neg y2,if_pos h]
  have d1:decide (a<b)=false:=by simp;omega
  have d2:decide (b<a)=true:=by simpa using h
 all_goals
  have HC:=ħ hc;clear hc h;go_enter func141,ntmps141
  go_wp2_with (go_at_call 157;refine (uR _ _).mono ?_;rintro e w' ⟨rfl,rfl⟩)
  go_ret
  exact ⟨AA HC.out.symm,rfl⟩
structure AE where
 k:ByteArray
 v:ByteArray
instance:Inhabited AE:=⟨⟨⟨#[]⟩,⟨#[]⟩⟩⟩
structure Js where
 se:Int
 sq:Int
deriving Inhabited
def IA (p:AE):List Value:=[.string p.k,.string p.v]
theorem CX (p:AE):(IA p).length=2:=rfl
theorem Jw (p:AE):∀u∈IA p,u.oneCell'=true:=by
 intro u hu;simp only [IA,List.mem_cons,List.not_mem_nil,or_false] at hu;rcases hu with rfl|rfl<;>rfl
def DR (w:World) (A:Option Addr) (n:Nat) (l:List AE):Prop:=l.length=n∧iI w A n 2 (eN IA l)
end
section
open Go.RowKit
structure TxD where
 se:Int
 sq:Int
 k:ByteArray
 v:ByteArray
def idS (n:Int):Bool:=decide (1≤n∧n≤1099511627776)
theorem Cf {n:Int}:idS n=true↔(1≤n∧n≤1099511627776):=by simp [idS]
theorem Az (n:Int) (y:Bool) (w:World) (hy:idS n=y):Calls prog 105 #[.int .i64 n] w fun e w'=>e=.returned (.bool y)∧w=w':=by
 subst hy;go_enter func105,ntmps105
 go_wp2
 all_goals (go_ret;refine ⟨aH ?_,rfl⟩;rw [Bool.eq_iff_iff,Cf];simp;try omega)
theorem Bp {a:ByteArray}:a.toList=[]↔a.size=0:=by
 rw [ByteArray.toList_eq];obtain ⟨⟨x⟩⟩:=a;simp [ByteArray.size]
def txS (x:TxD):Bool:=decide (1≤x.se∧x.se≤1099511627776∧1≤x.sq∧x.sq≤1099511627776∧1≤x.k.size∧x.k.size≤16∧x.v.size≤32)
theorem CC {x:TxD}:txS x=true↔(1≤x.se∧x.se≤1099511627776∧1≤x.sq∧x.sq≤1099511627776∧1≤x.k.size∧x.k.size≤16∧x.v.size≤32):=by simp [txS]
theorem mU (x:TxD) (y:Bool) (w:World) (hy:txS x=y):Calls prog 75 #[.agg #[.int .i64 x.se,.int .i64 x.sq,.string x.k,.string x.v]] w fun e w'=>e=.returned (.bool y)∧Below w w w':=by
 subst hy;by_cases h0:x.k.toList=[]
 · have h1:=Bp.1 h0;go_enter func75,ntmps75
   go_wp2_with fail
   all_goals (go_ret;refine ⟨aH ?_,aJ⟩;rw [Bool.eq_iff_iff,CC];simp [h0];try omega)
 · have h1:¬x.k.size=0:=fun h=>h0 (Bp.2 h);go_enter func75,ntmps75
   go_wp2_with fail
   all_goals (go_ret;refine ⟨aH ?_,aJ⟩;rw [Bool.eq_iff_iff,CC];simp [h0];try omega)
theorem xQ (x:TxD) (y:Bool) (w:World) (hy:txS x=y):Calls prog 60 #[.agg #[.int .i64 x.se,.int .i64 x.sq,.string x.k,.string x.v]] w fun e w'=>e=.returned (.bool y)∧Below w w w':=by
 subst hy;go_enter func60,ntmps60
 go_wp2_with (go_at_call 105;refine (Az _ _ _ rfl).mono ?_;rintro e w' ⟨rfl,rfl⟩)
 all_goals (go_ret;refine ⟨aH ?_,aJ⟩;go_light;rw [Bool.eq_iff_iff,CC];simp_all [idS];try omega)
end
section
open Go.RowKit
def cnt {α:Type} (p:α→Bool):List α→Nat
 | []=>0
 | x :: l=>if p x=true then cnt p l+1 else 0
theorem gD {α:Type} (p:α→Bool):∀l:List α,cnt p l≤l.length
 | []=>Nat.le_refl _
 | x :: l=>by unfold cnt;split;have:=gD p l;simp;omega;simp
theorem sG {α:Type} [Inhabited α] (p:α→Bool):∀(l:List α) (lo:Nat),lo≤l.length→(∀t,t<lo→p (l.getD t default)=true)→(lo<l.length→p (l.getD lo default)=false)→cnt p l=lo
 | [],lo,h,_,_=>by
  have h2:lo=0:=by simpa using h
  subst h2;rfl
 | x :: l,0,_,_,h=>by
  have:=h y17;unfold cnt;rw [if_neg (by rw [show p x=false from this];simp)]
 | x :: l,lo+1,h,h1,h2=>by
  unfold cnt;rw [if_pos (show p x=true from h1 0 y2),sG p l lo (by simpa using h) (fun t ht=>h1 (t+1) y2) (fun ht=>h2 (by simpa using ht))]
def ltI (a b:Int):Bool:=decide (a<b)
theorem BX {a b c:Int} (h1:ltI a b=true) (h2:ltI b c=true):ltI a c=true:=by simp [ltI] at *;omega
theorem FO {a b c:Int} (h1:ltI a b=true) (h2:ltI a c=false):ltI b c=false:=by simp [ltI] at *;omega
theorem An {a b:Int}:pX a b<0↔ltI a b=true:=by unfold pX ltI;rw [decide_eq_true_eq];split;omega;split<;>omega
theorem Ew {a b:Int}:pX a b=0↔a=b:=by unfold pX;split;omega;split<;>omega
end
section
open Go.RowKit
theorem DN {P:Program} (w:World) {o:Oper} {a:Act} {K:Act→World→Prop} {Q:Exit→Act→World→Prop} (s x:Operand) (t t':TypeId)
 (ho:o.op=.call {callee:=.builtin .append,args:=#[s,x],argTypes:=#[t,t']}) (v u:Value) (hs:a.eval s=v) (hx:a.eval x=u) {v':Value} {w':World}
 (hr:(Builtin.append_ #[t,t'] o.type #[v,u]).run P w=.ok v' w') (h:K (a.put o.dst v') w'):o.wp P a w K Q:=Lib.wp_append_run w s x t t' ho v u hs hx v' w' hr h
theorem uV {P:Program} {ops:Array Oper} {o:Oper} {a:Act} {w:World} {K:Act→World→Prop} {Q:Exit→Act→World→Prop} {E:Prop}
 (hg:o.guard=none) (s x:Operand) (t t':TypeId) (hop:o.op=Op.call {callee:=Callee.builtin Builtin.append,args:=#[s,x],argTypes:=#[t,t']})
 (v u:Value) (hd:a.eval s=v) (hx:a.eval x=u) {v':Value} {w':World} (hr:(Builtin.append_ #[t,t'] o.type #[v,u]).run P w=.ok v' w') (hK:K (a.put o.dst v') w') :
 if Region.wanted o (yielded ops a.tmps)=true then Oper.wp P o a w K Q else E:=by
 have hw:Region.wanted o (yielded ops a.tmps)=true:=by simp [Region.wanted,hg]
 rw [if_pos hw];exact DN w s x t t' hop v u hd hx hr hK
end
section
open Go.RowKit
theorem Blk.grown2 {w w':World} {g:Nat} {t:TypeId} {cs:List Value} {u:Value} (h:Blk w g t cs) (hb:w.grownBy w' u.ownBlock) (hne:u.ownBlock≠some g):Blk w' g t cs:=h.of_heap (hb.block g h.lt (fun e=>hne e.symm))
end
section
open Go.RowKit
variable {tb:TypeId} {rs:List Value}
end
section
section
variable {α K:Type} [Inhabited α] {f:α→K} {lt:K→K→Bool}
theorem wR (p:α→Bool):∀(l:List α),∀x∈l.take (cnt p l),p x=true
 | [],x,h=>by simp at h
 | y :: l,x,h=>by
  unfold cnt at h;split at h
  · next hy=>
    rw [List.take_succ_cons,List.mem_cons] at h;rcases h with rfl|h
    · exact hy
    · exact wR p l x h
  · simp at h
theorem sH (p:α→Bool):∀(l:List α),cnt p l<l.length→p (l.getD (cnt p l) default)=false
 | [],h=>by simp at h
 | y :: l,h=>by
  unfold cnt at h ⊢;split
  · next hy=>
    rw [if_pos hy] at h;exact sH p l (by simpa using h)
  · next hy=>simpa using hy
theorem EW (l:List α) (k:Nat) (h:k<l.length):l.drop k=l.getD k default :: l.drop (k+1):=by
 rw [List.drop_eq_getElem_cons h];simp [h]
end
theorem xE {α:Type} [Inhabited α] {l:List α} {P:α→Prop}:(∀j,j<l.length→P (l.getD j default))↔∀x∈l,P x:=by
 constructor
 · intro h x hx;obtain ⟨j,hj,rfl⟩:=List.mem_iff_getElem.1 hx;have:=h j hj;simpa [hj] using this
 · intro h j hj;have:=h (l[j]) (List.getElem_mem hj);simpa [hj] using this
end
section
open Go.RowKit
theorem DR.take {w:World} {A:Option Addr} {n i:Nat} {l:List AE} (h:DR w A n l) (hi:i≤n):DR w A i (l.take i):=by
 refine ⟨by rw [List.length_take,h.1];omega,by rw [jU CX,List.length_take,h.1];rw [Nat.min_eq_left hi],by have:=h.2.2.1;omega,fun h0=>?_⟩;obtain ⟨b,off,e,hb,hc⟩:=h.2.2.2 y2;refine ⟨b,off,e,hb,fun j u hj=>hc j u ?_⟩;rw [yE CX,List.getElem?_take] at hj;split at hj
 · exact hj
 · cases hj
instance:Inhabited TxD:=⟨⟨0,0,⟨#[]⟩,⟨#[]⟩⟩⟩
def kH (x:TxD):List Value:=[.int .i64 x.se,.int .i64 x.sq,.string x.k,.string x.v]
theorem gQ (x:TxD):(kH x).length=4:=rfl
theorem AL (x:TxD):∀u∈kH x,u.oneCell'=true:=by
 intro u hu;simp only [kH,List.mem_cons,List.not_mem_nil,or_false] at hu;rcases hu with rfl|rfl|rfl|rfl<;>rfl
def xth (l:List TxD) (i:Nat):TxD:=l.getD i default
def bZ (w:World) (A:Option Addr) (n:Nat) (l:List TxD):Prop:=l.length=n∧iI w A n 4 (eN kH l)
theorem bZ.up {w w':World} {A n l} (h:bZ w A n l) (hb:Below w w w'):bZ w' A n l:=⟨h.1,h.2.up hb⟩
theorem bZ.at {w:World} {A n l} (h:bZ w A n l) (hn:0<n):∃b off,A=some ⟨b,off,none⟩∧b<w.heap.size∧∀j,j<n→w.cell? ⟨b,off+j*4,none⟩=some (.int .i64 (xth l j).se)∧w.cell? ⟨b,off+j*4+1,none⟩=some (.int .i64 (xth l j).sq)∧w.cell? ⟨b,off+j*4+2,none⟩=some (.string (xth l j).k)∧w.cell? ⟨b,off+j*4+3,none⟩=some (.string (xth l j).v):=by
 obtain ⟨b,off,e,hb,hc⟩:=h.2.2.2 hn;refine ⟨b,off,e,hb,fun j hj=>?_⟩
 have hat:∀r u,r<4→(kH (xth l j))[r]? =some u→w.cell? ⟨b,off+j*4+r,none⟩=some u:=fun r u hr hu=>by
  rw [Nat.add_assoc];exact hc _ u (by rw [Cc gQ l j r (by rw [h.1];exact hj) hr];exact hu)
 exact ⟨hat 0 _ y2 rfl,hat 1 _ y2 rfl,hat 2 _ y2 rfl,hat 3 _ y2 rfl⟩
instance:Inhabited ByteArray:=⟨⟨#[]⟩⟩
structure bY where
 au:Int
 n:Int
 tx:List TxD
instance:Inhabited bY:=⟨⟨0,0,[]⟩⟩
def SmX (x:TxD):Prop:=x.k.size≤140737488355328∧x.v.size≤140737488355328
def SmB (b:bY):Prop:=b.tx.length≤17592186044416∧∀x∈b.tx,SmX x
structure JF where
 p:SlP
 q:SlP
 x:SlP
 b:SlP
 k:SlP
structure JE where
 p:List AE
 q:List Js
 x:List TxD
 b:List bY
 k:List ByteArray
end
section
open Go.RowKit Go.ChangeShapes Go.WideShapes Go.ChangeAt
section
variable {H:Type} {enc:TypeId×Value→H} {w:World} {base:Nat} {spare:Nat→Bool} {held:Bool}
def Wok (t:TypeId) (d:DataW H):Prop:=∀b∈d.weights prog t,b≤reachBytes
theorem Wok.field {t:TypeId} {fs:Array Field} {parts:List (DataW H)} (ht:prog.underlying t=some (.struct fs)) (h:Wok t (.agg parts)) {i:Nat} {f:TypeId} {d:DataW H} (hf:(fs.toList.map (·.type))[i]? =some f) (hd:parts[i]? =some d):Wok f d:=
 fun b hb=>h b (by simp only [DataW.weights,ht];exact DataW.weights_mem_each hf hd b hb)
theorem tQ {e:TypeId} {d:DataW H} {b:Nat} (hb:b∈d.weights prog e):∀{l:List (DataW H)},d∈l→b∈DataW.weightsAll prog e l
 | [],h=>by cases h
 | x :: l,h=>by
  rw [DataW.weightsAll,List.mem_append];rcases List.mem_cons.1 h with rfl|h
  · exact .inl hb
  · exact .inr (tQ hb h)
theorem Wok.elem {t e:TypeId} {elems sp:List (DataW H)} (ht:prog.underlying t=some (.slice e)) (h:Wok t (.slice elems sp)) {d:DataW H} (hd:d∈elems):Wok e d:=
 fun b hb=>h b (by simp only [DataW.weights,ht];exact List.mem_cons_of_mem _ (List.mem_append_left _ (tQ hb hd)))
theorem Wok.len {t e:TypeId} {elems sp:List (DataW H)} (ht:prog.underlying t=some (.slice e)) (h:Wok t (.slice elems sp)):(elems.length+sp.length)*prog.bytesOf e≤reachBytes:=
 h _ (by simp only [DataW.weights,ht];exact List.mem_cons_self)
theorem Wok.str {t:TypeId} {l:List UInt8} (h:Wok (H:=H) t (.lit (.string l))):l.length≤reachBytes:=h _ (by simp [DataW.weights])
theorem BZ {t:TypeId} (ht:prog.underlying t=some .string) {fuel:Nat} {cs:List Value} {x:DataW H×List MemPlace} (h:DataW.trod enc prog w base spare held fuel t cs=some x) (hw:Wok t x.1):∃s:ByteArray,cs=[.string s]∧s.size≤140737488355328:=by
 obtain ⟨s,e,ex,_⟩:=DataW.trod_string ht h;refine ⟨s,e,?_⟩;rw [ex] at hw;have:=hw.str;simp [reachBytes] at this;have e2:s.size=s.data.size:=rfl;rw [e2];omega
/-- A slice of flat elements, opened: how long it may be. -/
theorem vG {α:Type} [Inhabited α] {e:α→List Value} {k kb:Nat} {G:α→Prop} {t te:TypeId} (hk:∀x,(e x).length=k) (hk0:0<k) (ht:prog.underlying t=some (.slice te)) (hc:prog.cellsOf te=k) (hb0:prog.bytesOf te=kb)
 (hopen:∀(fuel:Nat) (cs:List Value) (x:DataW H×List MemPlace),DataW.trod enc prog w base spare held fuel te cs=some x→Wok te x.1→∃v,cs=e v∧G v)
 {fuel:Nat} {cs:List Value} {x:DataW H×List MemPlace} (h:DataW.trod enc prog w base spare held fuel t cs=some x) (hw:Wok t x.1):∃A n c l,cs=[.slice A n c]∧l.length=n∧iI w A n k (eN e l)∧n≤c∧c≤9223372036854775807∧n*kb≤140737488355328∧∀v∈l,G v:=by
 rcases Deep.open_slice ht h with ⟨hcs,_⟩|⟨a,len,cap,m,n,D,Pl,hcs,_,hl,hm,hmm,hxx,hx⟩
 · exact ⟨none,0,0,[],hcs,rfl,⟨by simp [eN],by omega,fun h=>absurd h y2⟩,by omega,by omega,by omega,fun v hv=>by cases hv⟩
 · have hlen:len≤m:=by rw [hmm];split<;>omega
   rw [hxx] at hw
   have hq:len*kb≤140737488355328:=by
    have:=hw.len ht;rw [hb0] at this;simp only [List.length_map,List.length_range,reachBytes] at this;have h2:len*kb≤(len+(m-len))*kb:=Nat.mul_le_mul_right _ y2;omega
   have hcell:∀i,i<len→∃v:α,G v∧∀j u,(e v)[j]? =some u→w.cell? (a.add (i*k+j))=some u:=by
    intro i hi;obtain ⟨cs',h1,h2⟩:=hx i y2;rw [hc] at h1;obtain ⟨v,rfl,hg⟩:=hopen _ _ _ h2 (hw.elem ht (List.mem_map.2 ⟨i,List.mem_range.2 hi,rfl⟩));refine ⟨v,hg,fun j u hj=>?_⟩;obtain ⟨_,_,hat⟩:=World.cells?_some h1
    have hjk:j<k:=by
     have:=(List.getElem?_eq_some_iff.1 hj).1;rw [hk] at this;exact this
    have:=hat j hjk;rw [Deep.add_add] at this;rw [this];exact hj
   obtain ⟨f,hf⟩:=Deep.choose_lt (α:=α) hcell;have hg:∀i,i<len→((List.range len).map f).getD i default=f i:=fun i hi=>by simp [hi]
   refine ⟨some a,len,cap,(List.range len).map f,hcs,by simp,⟨by rw [jU hk];simp,by have:cap≤9223372036854775807:=hm;omega,fun hn=>?_⟩,hl,hm,hq,fun v hv=>?_⟩
   · obtain ⟨b,off,spot⟩:=a;have h0:=(hf 0 hn).2
     obtain ⟨u0,hu0⟩:∃u,(e (f 0))[0]? =some u:=by
      have:0<(e (f 0)).length:=by rw [hk];exact hk0
      exact ⟨_,List.getElem?_eq_getElem this⟩
     have hc0:=h0 0 u0 hu0;have hspot:spot=none:=by simpa [Addr.add] using World.cell?_spot hc0
     subst hspot;refine ⟨b,off,rfl,by simpa [Addr.add] using World.block_lt_of_cell? w _ hc0,fun j u hj=>?_⟩
     have hjl:j<len*k:=by
      have:=(List.getElem?_eq_some_iff.1 hj).1;rw [jU hk] at this;simpa using this
     have hq:j / k<len:=by rw [Nat.div_lt_iff_lt_mul hk0];exact hjl
     have hr:j % k<k:=Nat.mod_lt _ hk0;have hjj:j=j / k*k+j % k:=by rw [Nat.mul_comm];exact (Nat.div_add_mod j k).symm
     have h1:=Cc hk ((List.range len).map f) (j / k) (j % k) (by simpa using hq) hr;rw [←hjj,hg _ hq,hj] at h1;have h2:=(hf (j / k) hq).2 (j % k) u h1.symm;rw [←hjj] at h2;rw [←h2]
     congr 1
     by_cases hz:j=0
     · subst hz;rfl
     · simp [Addr.add,hz]
   · rw [List.mem_map] at hv;obtain ⟨i,hi,rfl⟩:=hv;exact (hf i (List.mem_range.1 hi)).1
theorem BQ:prog.cellsOf 9=1:=by kernel_rfl
theorem mK:prog.cellsOf 41=4:=by kernel_rfl
theorem jI:prog.cellsOf 22=1:=by kernel_rfl
theorem iM:prog.cellsOf 43=3:=by kernel_rfl
theorem CQ:prog.bytesOf 41=48:=by kernel_rfl
theorem AZ {fuel:Nat} {cs:List Value} {x:DataW H×List MemPlace} (h:DataW.trod enc prog w base spare held fuel 41 cs=some x) (hw:Wok 41 x.1):∃v,cs=kH v∧SmX v:=by
 obtain ⟨xs,n,_,hx,hl,hlen,hf⟩:=DataW.trod_struct underlying41 h;rw [hx] at hw;rw [mK] at hl;obtain ⟨v0,v1,v2,v3,rfl⟩:=Db hl;obtain ⟨y0,y1,y2,y3,rfl⟩:=Db hlen;have f0:DataW.trod enc prog w base spare held n 3 [v0]=some y0:=by simpa [bC] using hf 0 _ rfl
 have f1:DataW.trod enc prog w base spare held n 3 [v1]=some y1:=by simpa [bC] using hf 1 _ rfl
 have f2:DataW.trod enc prog w base spare held n 9 [v2]=some y2:=by simpa [BQ] using hf 2 _ rfl
 have f3:DataW.trod enc prog w base spare held n 9 [v3]=some y3:=by simpa [BQ] using hf 3 _ rfl
 obtain ⟨z0,e0⟩:=dN f0;obtain ⟨z1,e1⟩:=dN f1;obtain ⟨z2,e2,s2⟩:=BZ underlying9 f2 (hw.field underlying41 (i:=2) rfl rfl);obtain ⟨z3,e3,s3⟩:=BZ underlying9 f3 (hw.field underlying41 (i:=3) rfl rfl);injection e0 with e0;injection e1 with e1;injection e2 with e2;injection e3 with e3;subst e0;subst e1;subst e2;subst e3;exact ⟨⟨z0,z1,z2,z3⟩,rfl,s2,s3⟩
theorem zE {fuel:Nat} {cs:List Value} {x:DataW H×List MemPlace} (h:DataW.trod enc prog w base spare held fuel 43 cs=some x) (hw:Wok 43 x.1):∃(b:bY) (A:Option Addr) (n c:Nat),cs=[.int .i64 b.au,.int .i64 b.n,.slice A n c]∧bZ w A n b.tx∧SmB b:=by
 obtain ⟨xs,n,_,hx,hl,hlen,hf⟩:=DataW.trod_struct underlying43 h;rw [hx] at hw;rw [iM] at hl;obtain ⟨v0,v1,v2,rfl⟩:=FN hl;obtain ⟨y0,y1,y2,rfl⟩:=FN hlen;have f0:DataW.trod enc prog w base spare held n 3 [v0]=some y0:=by simpa [bC] using hf 0 _ rfl
 have f1:DataW.trod enc prog w base spare held n 3 [v1]=some y1:=by simpa [bC] using hf 1 _ rfl
 have f2:DataW.trod enc prog w base spare held n 22 [v2]=some y2:=by simpa [jI] using hf 2 _ rfl
 obtain ⟨z0,e0⟩:=dN f0;obtain ⟨z1,e1⟩:=dN f1;obtain ⟨A,m,c,l,e2,h1,h2,h3,h4,h5,h6⟩:=vG (e:=kH) (G:=SmX) gQ (by omega) underlying22 mK CQ (fun _ _ _ h hw=>AZ h hw) f2 (hw.field underlying43 (i:=2) rfl rfl);injection e0 with e0;injection e1 with e1;injection e2 with e2;subst e0;subst e1;subst e2;exact ⟨⟨z0,z1,l⟩,A,m,c,rfl,⟨h1,h2⟩,by rw [h1];omega,h6⟩
end
end
section
open Go.RowKit
theorem iC {w x:World} (h:Below w w x) {b o:Nat} {v:Value} (hp:w.heap.size≤b):Below w w (x.setCell ⟨b,o,none⟩ v):=h.setCell hp v
theorem aI {w x:World} (h:Below w.heap.size w x:=by (repeat (first|(with_reducible exact Below.refl _ _)|(with_reducible assumption)|(with_reducible apply aB)|(with_reducible apply aM)|(with_reducible apply gV)|(with_reducible refine aA ?_ (by with_reducible assumption))|(with_reducible refine aA ?_ (HF.out _))|((with_reducible refine iC ?_ ?_);rotate_left;omega)))):Below w.heap.size w x:=h
theorem xK {w:World} {B k n:Nat} {t:TypeId} {v:Value} {xs:List Value} (h:w.ownsRow B t k v n xs) {b o:Nat} (hp:b<B) (u:Value):(w.setCell ⟨b,o,none⟩ u).ownsRow B t k v n xs:=IM h (p:=⟨b,o,none⟩) hp u
end
section
open Go.RowKit
def wgo {α:Type} (f:α→Int):List α→Int→Int
 | [],v=>v
 | x :: l,v=>if v<1048576 then wgo f l (v+f x) else v
theorem CD {α:Type} {f:α→Int} (hf:∀x,0≤f x):∀(l:List α) (v:Int),v≤wgo f l v
 | [],v=>Int.le_refl _
 | x :: l,v=>by
  unfold wgo;split
  · have:=CD hf l (v+f x);have:=hf x;omega
  · exact Int.le_refl _
theorem yP {α:Type} {f:α→Int}:∀(l:List α) (v:Int),(∀x∈l,f x≤281474976710656)→v≤562949953421312→wgo f l v≤562949953421312
 | [],v,_,h=>h
 | x :: l,v,hf,h=>by
  unfold wgo;split
  · have:=hf x y17;exact yP l _ (fun y hy=>hf y (by simp [hy])) y2
  · exact h
theorem DG {α:Type} {f:α→Int} (l:List α) {v:Int} (h:¬v<1048576):wgo f l v=v:=by
 cases l with
 | nil=>rfl
 | cons x l=>unfold wgo;rw [if_neg h]
theorem DF {α:Type} [Inhabited α] {f:α→Int} (l:List α) {v:Int} {k:Nat} (hk:k<l.length) (h:v<1048576):wgo f (l.drop k) v=wgo f (l.drop (k+1)) (v+f (l.getD k default)):=by
 rw [EW l k hk]
 conv=>lhs;unfold wgo
 rw [if_pos h]
def szX (x:TxD):Int:=(x.k.size:Int)+(x.v.size:Int)
def xwS (l:List TxD):Int:=wgo szX l (l.length:Int)
theorem Jp (p:TxD):0≤szX p:=by unfold szX;omega
theorem F7 {x:TxD} (h:SmX x):szX x≤281474976710656:=by have:=h.1;have:=h.2;unfold szX;omega
theorem EF {α:Type} [Inhabited α] {G:α→Prop} {l:List α} (h:∀v∈l,G v) {k:Nat} (hk:k<l.length):G (l.getD k default):=(xE (P:=G)).2 h k hk
theorem jQ (A:Option Addr) (n c:Nat) (l:List TxD) (y:Int) (w:World) (hl:bZ w A n l) (hs:∀x∈l,SmX x) (hn:n≤17592186044416) (hy:xwS l=y) :
 Calls prog 23 #[.slice A n c] w fun e w'=>e=.returned (.int .i64 y)∧Below w w w':=by
 have HL:=ħ hl;have HN:=ħ hl.1;have HS:=ħ hs;have HY:=ħ hy;clear hl hs hy;go_enter func23,ntmps23
 go_wp2_with fail
 go_loopw [3,4] (fun sv si wr=>∃(k:Nat) (v:Int),k≤n∧si=.int .i64 k∧sv=.int .i64 v∧0≤v∧v≤562949953421312∧Hid (wgo szX (l.drop k) v=y)∧Below w w wr) (fun _ si _=>n-(intOf si).toNat)
 case atStart=>exact ⟨0,n,Nat.zero_le _,rfl,rfl,by omega,by omega,ħ (by have:=HY.out;unfold xwS at this;rw [HN.out] at this;exact this),Below.refl _ _⟩
 case round=>
  obtain ⟨k,v,hk,rfl,rfl,hv0,hv1,HW,hbw⟩:=hrel
  (obtain ⟨wk,hwk⟩:∃x,x=wr:=⟨_,rfl⟩);subst hwk
  by_cases hlt:k<n
  · by_cases hvl:v<1048576
    · obtain ⟨b,off,rfl,hb,hc⟩:=(HL.out.up hbw).at y2;obtain ⟨c0,c1,c2,c3⟩:=hc k hlt;have hsm:=EF HS.out (k:=k) y18;obtain ⟨hs1,hs2⟩:=hsm;have hst:=DF (f:=szX) l (v:=v) (k:=k) y18 hvl;rw [HW.out] at hst;refine nm (xth l k) fun p hp=>?_;have hp2:l.getD k default=p:=hp.symm;rw [hp2] at hst hs1 hs2;rw [←hp] at c0 c1 c2 c3;have HST:=ħ hst.symm;clear hc hst hp hp2;go_wp2_with fail
      refine aQ y8 y8 (fun ι F hne hF hcl=>?_);have hcF0:=fun n o=>(aK (hF n)).1 (b) o y4;have HF:=ħ hF;clear hF;have HC:=ħ hcl;clear hcl
      repeat (any_goals (first
       | go_big_quiet_step (first|(fail))
       | (refine gq ?_ ?_<;>intro hb)))
      all_goals (refine wpQuiet_nil ?_;intro nq)
      all_goals (try (exfalso;omega))
      have hFwf:=HF.out nq;clear HF HC hne;generalize F nq=wf at *;go_wp2_with fail
      (refine rnd ?_;exact ⟨k+1,v+szX p,by omega,by go_num,by (first|rfl|(unfold szX;rw [Int.add_assoc])),by (unfold szX;omega),by (unfold szX;omega),HST,aA hbw hFwf⟩)
    · have hd:decide (v<1048576)=false:=by simpa using hvl
      have e:=DG (f:=szX) (l.drop k) hvl;rw [HW.out] at e;subst e;clear hvl;go_wp2_with fail
      go_ret
      exact ⟨rfl,hbw⟩
  · have e:y=v:=by
     have:=HW.out;rw [List.drop_of_length_le y30] at this;exact this.symm
    subst e;go_wp2_with fail
    go_ret
    exact ⟨rfl,hbw⟩
end
section
open Go.RowKit
structure JH (P:JF) (D:JE):Prop where
 p:P.p.n≤6000
 q:P.q.n≤6000
 x:P.x.n≤100
 b:P.b.n≤6000
 k:P.k.n≤100
 t:∀v∈D.b,v.tx.length≤6000
end
section
open Go.RowKit
def BmT (b:bY):Prop:=1≤b.au∧b.au≤16∧1≤b.n∧b.n≤1099511627776∧1≤b.tx.length∧b.tx.length≤8∧∀j,j<b.tx.length→txS (xth b.tx j)=true
noncomputable def bmT (b:bY):Bool:=dec (BmT b)
theorem wP {b:bY}:bmT b=true↔BmT b:=bJ
theorem AJ (x:TxD) (y:Bool) (w:World) (hy:txS x=y):Calls prog 138 #[.agg #[.int .i64 x.se,.int .i64 x.sq,.string x.k,.string x.v]] w fun e w'=>e=.returned (.bool (!y))∧Below w w w':=by
 go_enter func138,ntmps138
 go_wp2_with fail
 refine (mU x y _ hy).mono ?_;rintro e w1 ⟨rfl,hb1⟩;go_wp2_with fail
 go_ret
 exact ⟨rfl,aI⟩
def Ca (l:List TxD) (n:Nat) (y:Int):Prop:=(y=-1∧∀j,j<n→txS (xth l j)=true)∨∃k:Nat,y=(k:Int)∧k<n∧txS (xth l k)=false
theorem vK (A:Option Addr) (n c:Nat) (l:List TxD) (w:World) (hl:bZ w A n l) :
 Calls prog 109 #[.slice A n c,.func (.func 138) #[] #[]] w fun e w'=>∃y,e=.returned (.int .i64 y)∧Ca l n y∧Below w w w':=by
 have HL:=ħ hl;have hnn:n≤9223372036854775807:=hl.2.2.1;clear hl;go_enter func109,ntmps109
 go_wp2_with fail
 go_loopw [8] (fun ix wr=>∃k:Nat,k≤n∧ix=.int .i64 k∧Hid (∀j,j<k→txS (xth l j)=true)∧Below w w wr) (fun ix _=>n-(intOf ix).toNat)
 case atStart=>exact ⟨0,Nat.zero_le _,rfl,ħ (fun j hj=>absurd hj y2),Below.refl _ _⟩
 case round=>
  obtain ⟨k,hk,rfl,HG,hbw⟩:=hrel
  (obtain ⟨wk,hwk⟩:∃x,x=wr:=⟨_,rfl⟩);subst hwk
  by_cases hlt:k<n
  · obtain ⟨b,off,rfl,hb,hc⟩:=(HL.out.up hbw).at y2;obtain ⟨c0,c1,c2,c3⟩:=hc k hlt;clear hc;cases hy:txS (xth l k)
    · have HY:=ħ hy;clear hy;go_wp2_with (go_at_call 138;refine (AJ (xth l k) false _ HY.out).mono ?_;rintro e w1 ⟨rfl,hb1⟩)
      go_ret
      exact ⟨k,rfl,.inr ⟨k,rfl,hlt,HY.out⟩,aA hbw hb1⟩
    · have HY:=ħ hy;clear hy;go_wp2_with (go_at_call 138;refine (AJ (xth l k) true _ HY.out).mono ?_;rintro e w1 ⟨rfl,hb1⟩)
      (refine rnd ?_;exact ⟨k+1,by omega,by go_num,ħ (fun j hj=>by (rcases Nat.lt_or_ge j k with h|h;exact HG.out j h;(obtain rfl:j=k:=by omega);exact HY.out)),aA hbw hb1⟩)
  · obtain rfl:k=n:=by omega
    go_wp2_with fail
    go_ret
    exact ⟨-1,rfl,.inl ⟨rfl,HG.out⟩,hbw⟩
theorem rX (A:Option Addr) (n c:Nat) (l:List TxD) (w:World) (hl:bZ w A n l) :
 Calls prog 73 #[.slice A n c,.func (.func 138) #[] #[]] w fun e w'=>∃y:Int,e=.returned (.bool (decide (0≤y)))∧Ca l n y∧Below w w w':=by
 have HL:=ħ hl;clear hl;go_enter func73,ntmps73
 go_wp2_with fail
 refine (vK A n c l _ (HL.out.up (aI))).mono ?_;rintro e w1 ⟨y,rfl,hf,hb1⟩;go_wp2_with fail
 go_ret
 exact ⟨y,rfl,hf,aI⟩
theorem lZ (b:bY) (A:Option Addr) (n c:Nat) (y:Bool) (w:World) (hl:bZ w A n b.tx) (hy:bmT b=y):Calls prog 112 #[.agg #[.int .i64 b.au,.int .i64 b.n,.slice A n c]] w fun e w'=>e=.returned (.bool y)∧Below w w w':=by
 have HL:=ħ hl;have HN:=ħ hl.1;have HY:=ħ hy;clear hl hy;refine mn b.au fun au hau=>?_;refine mn b.n fun bn hbn=>?_;rw [hau,hbn];have HAU:=ħ hau;have HBN:=ħ hbn;clear hau hbn
 have hno:¬(1≤au∧au≤16∧1≤bn∧bn≤1099511627776∧1≤n∧n≤8)→y=false:=fun h=>by
  rw [←HY.out];cases hb:bmT b
  · rfl
  · have:=wP.1 hb
    exfalso;apply h
    rw [←HAU.out,← HBN.out,← HN.out];exact ⟨this.1,this.2.1,this.2.2.1,this.2.2.2.1,this.2.2.2.2.1,this.2.2.2.2.2.1⟩
 have HNO:=ħ hno;clear hno;go_enter func112,ntmps112
 by_cases h1:1≤au
 case' neg=>have hb1:decide (au<1)=true:=by simp;omega
 case' pos=>
  have hb1:decide (au<1)=false:=by simp;omega
  by_cases h2:au≤16
  case' neg=>have hb2:decide (16<au)=true:=by simp;omega
  case' pos=>
   have hb2:decide (16<au)=false:=by simp;omega
   by_cases h3:1≤bn
   case' neg=>have hb3:decide (bn<1)=true:=by simp;omega
   case' pos=>
    have hb3:decide (bn<1)=false:=by simp;omega
    by_cases h4:bn≤1099511627776
    case' neg=>have hb4:decide (1099511627776<bn)=true:=by simp;omega
    case' pos=>
     have hb4:decide (1099511627776<bn)=false:=by simp;omega
     by_cases h5:1≤n
     case' neg=>have hb5:decide ((n:Int)<1)=true:=by simp;omega
     case' pos=>
      have hb5:decide ((n:Int)<1)=false:=by simp;omega
      by_cases h6:n≤8
      case' neg=>have hb6:decide ((8:Int)<(n:Int))=true:=by simp;omega
      case' pos=>
       have hb6:decide ((8:Int)<(n:Int))=false:=by simp;omega
       have hok:=And.intro h1 (And.intro h2 (And.intro h3 (And.intro h4 (And.intro h5 h6))));have HOK:=ħ hok;clear hok;go_wp2_with fail
       refine (rX A n c b.tx _ (HL.out.up y3)).mono ?_;rintro e w1 ⟨z,rfl,hf,hbel⟩;have HF:=ħ hf;clear hf;go_wp2_with fail
       go_ret
       refine ⟨aH ?_,y10⟩;rw [←HY.out,Bool.eq_iff_iff,wP];obtain ⟨a1,a2,a3,a4,a5,a6⟩:=HOK.out;constructor
       · intro hz;have hz2:¬0≤z:=by simpa using hz
         rcases HF.out with ⟨_,hall⟩|⟨k,hk,_⟩
         · exact ⟨by rw [HAU.out];exact a1,by rw [HAU.out];exact a2,by rw [HBN.out];exact a3,by rw [HBN.out];exact a4,by rw [HN.out];exact a5,by rw [HN.out];exact a6,by rw [HN.out];exact hall⟩
         · omega
       · intro hB;rcases HF.out with ⟨hm,_⟩|⟨k,hk,hkn,hkf⟩
         · subst hm;decide
         · have:=hB.2.2.2.2.2.2 k (by rw [HN.out];exact hkn);rw [hkf] at this;cases this
 all_goals
  go_wp2_with fail
  go_ret
  exact ⟨aH (by rw [HNO.out y2]),y10⟩
end
section
open Go.RowKit
variable {tb:TypeId} {rs:List Value}
theorem Ds (A:Option Addr) (n c:Nat) (l:List TxD) (w:World) (hl:bZ w A n l):Calls prog 31 #[.slice A n c] w fun e w'=>∃y,e=.returned (.bool y)∧(y=true↔∀j,j<n→txS (xth l j)=true)∧Below w w w':=by
 have HL:=ħ hl;have hnn:n≤9223372036854775807:=hl.2.2.1;clear hl;refine nm (dec (∀j,j<n→txS (xth l j)=true)) fun y hy=>?_;have HY:Hid (y=true↔∀j,j<n→txS (xth l j)=true):=ħ (by rw [hy];exact bJ);clear hy
 suffices h:Calls prog 31 #[.slice A n c] w fun e w'=>e=.returned (.bool y)∧Below w w w' from h.mono fun e w' ⟨h1,h2⟩=>⟨y,h1,HY.out,h2⟩
 go_enter func31,ntmps31
 go_wp2_with fail
 go_loopw [3] (fun ix wr=>∃k:Nat,k≤n∧ix=.int .i64 k∧Hid (∀j,j<k→txS (xth l j)=true)∧Below w w wr) (fun ix _=>n-(intOf ix).toNat)
 case atStart=>exact ⟨0,Nat.zero_le _,rfl,ħ (fun j hj=>absurd hj y2),Below.refl _ _⟩
 case round=>
  obtain ⟨k,hk,rfl,HG,hbw⟩:=hrel
  (obtain ⟨wk,hwk⟩:∃x,x=wr:=⟨_,rfl⟩);subst hwk
  by_cases hlt:k<n
  · obtain ⟨b,off,rfl,hb,hc⟩:=(HL.out.up hbw).at y2;obtain ⟨c0,c1,c2,c3⟩:=hc k hlt;clear hc;cases hx:txS (xth l k)
    · have HX:=ħ hx;clear hx;go_wp2_with (go_at_call 60;refine (xQ (xth l k) false _ HX.out).mono ?_;rintro e w1 ⟨rfl,hb1⟩)
      go_ret
      refine ⟨aH ?_,aA hbw hb1⟩;cases y
      · rfl
      · have:=HY.out.1 rfl k hlt;rw [HX.out] at this;cases this
    · have HX:=ħ hx;clear hx;go_wp2_with (go_at_call 60;refine (xQ (xth l k) true _ HX.out).mono ?_;rintro e w1 ⟨rfl,hb1⟩)
      (refine rnd ?_;exact ⟨k+1,by omega,by go_num,ħ (fun j hj=>by (rcases Nat.lt_or_ge j k with h|h;exact HG.out j h;(obtain rfl:j=k:=by omega);exact HX.out)),aA hbw hb1⟩)
  · obtain rfl:k=n:=by omega
    go_wp2_with fail
    go_ret
    exact ⟨aH (HY.out.2 HG.out).symm,hbw⟩
theorem jM (b:bY) (A:Option Addr) (n c:Nat) (y:Bool) (w:World) (hl:bZ w A n b.tx) (hy:bmT b=y):Calls prog 69 #[.agg #[.int .i64 b.au,.int .i64 b.n,.slice A n c]] w fun e w'=>e=.returned (.bool y)∧Below w w w':=by
 have HL:=ħ hl;have HN:=ħ hl.1;have HY:=ħ hy;clear hl hy;refine mn b.au fun au hau=>?_;refine mn b.n fun bn hbn=>?_;rw [hau,hbn];have HAU:=ħ hau;have HBN:=ħ hbn;clear hau hbn
 have hno:¬(1≤au∧au≤16∧idS bn=true∧1≤n∧n≤8)→y=false:=fun h=>by
  rw [←HY.out];cases hb:bmT b
  · rfl
  · have:=wP.1 hb
    exfalso;apply h
    rw [←HAU.out,← HBN.out,← HN.out];exact ⟨this.1,this.2.1,Cf.2 ⟨this.2.2.1,this.2.2.2.1⟩,this.2.2.2.2.1,this.2.2.2.2.2.1⟩
 have HNO:=ħ hno;clear hno;by_cases h1:1≤au
 case' neg=>
  have hb1:decide (1≤au)=false:=by simp;omega
  have HF:Hid (y=false):=ħ (HNO.out y2)
 case' pos=>
  have hb1:decide (1≤au)=true:=by simp;omega
  by_cases h2:au≤16
  case' neg=>
   have hb2:decide (au≤16)=false:=by simp;omega
   have HF:Hid (y=false):=ħ (HNO.out y2)
  case' pos=>
   have hb2:decide (au≤16)=true:=by simp;omega
   cases h3:idS bn
   case' false=>
    have HF:Hid (y=false):=ħ (HNO.out (by rw [h3];simp));have H3:=ħ h3;clear h3
   case' true=>
    have H3:=ħ h3;clear h3;by_cases h5:1≤n
    case' neg=>
     have hb5:decide ((1:Int)≤(n:Int))=false:=by simp;omega
     have HF:Hid (y=false):=ħ (HNO.out y2)
    case' pos=>
     have hb5:decide ((1:Int)≤(n:Int))=true:=by simp;omega
     by_cases h6:n≤8
     case' neg=>
      have hb6:decide ((n:Int)≤8)=false:=by simp;omega
      have HF:Hid (y=false):=ħ (HNO.out y2)
     case' pos=>
      have hb6:decide ((n:Int)≤8)=true:=by simp;omega
      go_enter func69,ntmps69
      go_wp2_with (go_at_call 105;refine (Az _ true _ H3.out).mono ?_;rintro e w' ⟨rfl,rfl⟩)
      refine (Ds A n c b.tx _ (HL.out.up y3)).mono ?_;rintro e w1 ⟨z,rfl,hf,hbel⟩;have HF:=ħ hf;clear hf;go_wp2_with fail
      go_ret
      refine ⟨aH ?_,y10⟩;rw [←HY.out,Bool.eq_iff_iff,wP,HF.out];have h34:=Cf.1 H3.out;constructor
      · intro hall;exact ⟨by rw [HAU.out];exact h1,by rw [HAU.out];exact h2,by rw [HBN.out];exact h34.1,by rw [HBN.out];exact h34.2,by rw [HN.out];exact h5,by rw [HN.out];exact h6,by rw [HN.out];exact hall⟩
      · intro hB j hj;exact hB.2.2.2.2.2.2 j (by rw [HN.out];exact hj)
 all_goals
  go_enter func69,ntmps69
  go_wp2_with (first|(go_at_call 105;refine (Az _ true _ H3.out).mono ?_;rintro e w' ⟨rfl,rfl⟩)|(go_at_call 105;refine (Az _ false _ H3.out).mono ?_;rintro e w' ⟨rfl,rfl⟩))
  go_ret
  exact ⟨aH (by rw [HF.out]),y10⟩
end
section
open Go.RowKit
theorem EA:(prog.info? 41).map (fun i=>(i.zero,i.size,i.bytes))=some (some (.agg #[.int .i64 0,.int .i64 0,.string ⟨#[]⟩,.string ⟨#[]⟩]),4,48):=by kernel_rfl
theorem vH (w:World) (B:Nat) (v:Value) (n:Nat) (xs:List Value) (hown:w.ownsRow B 41 4 v n xs) (vb off m c:Nat) (e:List Value) (hm:e.length=m*4) (hv:∀j u,e[j]? =some u→w.cell? ⟨vb,off+j,none⟩=some u) (h1e:∀u∈e,u.oneCell'=true) (hn:n+m≤1000000000) (hB:B≤w.heap.size) :
 ∃v' w',(Builtin.append_ #[22,22] 22 #[v,.slice (some ⟨vb,off,none⟩) m c]).run prog w=.ok v' w'∧w'.ownsRow B 41 4 v' (n+m) (xs ++ e)∧w.grownBy w' v.ownBlock∧Below B w w'∧(v'.ownBlock=v.ownBlock∨v'.ownBlock=some w.heap.size):=by
 obtain ⟨i0,hi,hz,hz1,hz2⟩:=info_parts EA
 obtain ⟨v',w',hrun,h2,h3,_,h5⟩:=run_append_own_at (P:=prog) w B 22 22 41 i0 _ 4 48 underlying22 hi hz hz1 hz2 rfl y2 v n xs hown ⟨vb,off,none⟩ m c e hm
  y53 h1e y59 y2 hB
 exact ⟨v',w',hrun,h2,h3,⟨h3.os,h3.tape,h3.output,h3.size,fun k hk=>h3.block k y2 (fun e=>by have:=(bV hown k e.symm).1;omega)⟩,h5⟩
def bD (w:World) (B:Nat) (v:Value) (l:List TxD):Prop:=w.ownsRow B 41 4 v l.length (eN kH l)
theorem bD.nil (w:World) (B:Nat):bD w B (.slice none 0 0) []:=xJ w B 4 _
theorem bD.txs {w:World} {B:Nat} {v:Value} {l:List TxD} (h:bD w B v l) (hl:l.length≤9223372036854775807):∃A c,v=.slice A l.length c∧bZ w A l.length l∧l.length≤c∧c≤9223372036854775807:=by
 obtain ⟨A,c,e,hr,_,h1,h2⟩:=dC h hl;exact ⟨A,c,e,⟨rfl,hr⟩,h1,h2⟩
theorem bD.up {w w':World} {B:Nat} {v:Value} {l:List TxD} (h:bD w B v l) (hb:Below w w w'):bD w' B v l:=bS h hb
theorem bD.mono {w:World} {B B':Nat} {v:Value} {l:List TxD} (h:bD w B v l) (hB:B'≤B):bD w B' v l:=aZ h hB
theorem bD.set3 {w:World} {B:Nat} {v:Value} {l:List TxD} (h:bD w B v l) {b o:Nat} (hp:b<B) (u:Value):bD (w.setCell ⟨b,o,none⟩ u) B v l:=xK h hp u
theorem Ga (l:List TxD) (k:Nat) (h:k<l.length):l.take (k+1)=l.take k ++ [xth l k]:=by
 rw [List.take_succ_eq_append_getElem h];simp [xth,h]
theorem nF {w:World} {ops:Array Oper} {rest:List Oper} {o:Oper} {a:Act} {Q:Exit→Act→World→Prop} (hgd:o.guard=none) (s x:Operand)
 (ho:o.op=.call {callee:=.builtin .append,args:=#[s,x],argTypes:=#[22,22]}) (hty:o.type=22)
 (B:Nat) (v:Value) (l:List TxD) (hs:a.eval s=v) (hown:bD w B v l) (vb off m c:Nat) (e:List TxD) (hx:a.eval x=.slice (some ⟨vb,off,none⟩) m c) (hm:e.length=m) (hv:∀j u,(eN kH e)[j]? =some u→w.cell? ⟨vb,off+j,none⟩=some u)
 (hlen:l.length+m≤900000000) (hB:B≤w.heap.size)
 (h:∀v' w',bD w' B v' (l ++ e)→w.grownBy w' v.ownBlock→Below B w w'→(v'.ownBlock=v.ownBlock∨v'.ownBlock=some w.heap.size)→wpList prog ops Q rest (a.put o.dst v') w'):wpList prog ops Q (o :: rest) a w:=by
 obtain ⟨v',w',hrun,h2,h3,h4,h5⟩:=vH w B v l.length (eN kH l) hown vb off m c (eN kH e) (by rw [jU gQ,hm]) hv (pY AL e) y2 hB;have hown':bD w' B v' (l ++ e):=by unfold bD;rw [List.length_append,hm,C0];exact h2
 exact Lib.wpList_append_run w hgd s x _ _ ho v _ hs hx v' w' y35 (h v' w' hown' h3 h4 h5)
theorem B6 {ops:Array Oper} {o:Oper} {a:Act} {w:World} {K:Act→World→Prop} {Q:Exit→Act→World→Prop} {E:Prop}
 (hg:o.guard=none) (s x:Operand) (ho:o.op=.call {callee:=.builtin .append,args:=#[s,x],argTypes:=#[22,22]}) (hty:o.type=22)
 (B:Nat) (v:Value) (l:List TxD) (hs:a.eval s=v) (hown:bD w B v l) (vb off m c:Nat) (e:List TxD) (hx:a.eval x=.slice (some ⟨vb,off,none⟩) m c) (hm:e.length=m) (hv:∀j u,(eN kH e)[j]? =some u→w.cell? ⟨vb,off+j,none⟩=some u)
 (hlen:l.length+m≤900000000) (hB:B≤w.heap.size)
 (h:∀v' w',bD w' B v' (l ++ e)→w.grownBy w' v.ownBlock→Below B w w'→(v'.ownBlock=v.ownBlock∨v'.ownBlock=some w.heap.size)→K (a.put o.dst v') w') :
 if Region.wanted o (yielded ops a.tmps)=true then Oper.wp prog o a w K Q else E:=by
 have hw:Region.wanted o (yielded ops a.tmps)=true:=by simp [Region.wanted,hg]
 rw [if_pos hw];obtain ⟨v',w',hrun,h2,h3,h4,h5⟩:=vH w B v l.length (eN kH l) hown vb off m c (eN kH e) (by rw [jU gQ,hm]) hv (pY AL e) y2 hB;have hown':bD w' B v' (l ++ e):=by unfold bD;rw [List.length_append,hm,C0];exact h2
 exact Lib.wp_append_run w s x _ _ ho v _ hs hx v' w' y35 (h v' w' hown' h3 h4 h5)
theorem Jt {w:World} {g:Nat} {p:TxD} (h:bX w g (kH p)):∀j u,(eN kH [p])[j]? =some u→w.cell? ⟨g,0+j,none⟩=some u:=fun j u hj=>by
 rw [Nat.zero_add];exact h.2 j u (by simpa [eN] using hj)
theorem bZ.take {w:World} {A:Option Addr} {n i:Nat} {l:List TxD} (h:bZ w A n l) (hi:i≤n):bZ w A i (l.take i):=by
 refine ⟨by rw [List.length_take,h.1];omega,by rw [jU gQ,List.length_take,h.1];rw [Nat.min_eq_left hi],by have:=h.2.2.1;omega,fun h0=>?_⟩;obtain ⟨b,off,e,hb,hc⟩:=h.2.2.2 y2;refine ⟨b,off,e,hb,fun j u hj=>hc j u ?_⟩;rw [yE gQ,List.getElem?_take] at hj;split at hj
 · exact hj
 · cases hj
theorem fY (A:Option Addr) (n c:Nat) (l:List TxD) (w:World) (hl:bZ w A n l) (hn:n≤800000000) :
 Calls prog 26 #[.slice A n c] w fun e w'=>∃v,e=.returned v∧bD w' w.heap.size v l∧Below w w w':=by
 have HL:=ħ hl;have HN:=ħ hl.1;clear hl;go_enter func26,ntmps26
 go_wp2_with fail
 go_loopw [3,4] (fun v i wr=>∃j:Nat,j≤n∧i=.int .i64 j∧bD wr w.heap.size v (l.take j)∧Below w w wr) (fun _ i _=>n-(intOf i).toNat)
 case atStart=>exact ⟨0,Nat.zero_le _,rfl,bD.nil _ _,Below.refl _ _⟩
 case round=>
  obtain ⟨j,hj,rfl,hown,hbw⟩:=hrel;by_cases hlt:j<n
  · obtain ⟨b,off,rfl,hb,hc⟩:=(HL.out.up hbw).at y2;obtain ⟨c0,c1,c2,c3⟩:=hc j hlt;clear hc;have hlenj:(l.take j).length≤j:=by simp;omega
    have hsz:=hbw.size;go_wp2_with (at_builtin;refine nF rfl (.tmp 11) (.tmp 16) rfl rfl (w.heap.size) u3 _ rfl (Fb hown _) _ 0 1 _ [xth l j] rfl rfl (Jt (bX.new _ (kH (xth l j)) _)) y2 (fE hsz) ?_;intro v1 w1 hown1 hg1 hbel1 hat1)
    (refine rnd ?_;exact ⟨j+1,by omega,by go_num,by rw [Ga l j y18];exact hown1,Below.trans (aB hbw) hbel1⟩)
  · go_wp2_with fail
    go_ret
    have e:l.take j=l:=List.take_of_length_le y30;exact ⟨_,rfl,e▸hown,hbw⟩
theorem Bd (A:Option Addr) (n c:Nat) (A':Option Addr) (n' c':Nat) (l:List TxD) (w:World) (hl:bZ w A n l) (hl':bZ w A' n' l):Calls prog 80 #[.slice A n c,.slice A' n' c'] w fun e w'=>e=.returned (.bool true)∧Below w w w':=by
 have hnn:n'=n:=by rw [←hl.1,← hl'.1]
 subst hnn;have HL:=ħ hl;have HL':=ħ hl';have hnn:n'≤9223372036854775807:=hl.2.2.1;clear hl hl';go_enter func80,ntmps80
 go_wp2_with fail
 go_loopw [5] (fun ix wr=>∃k:Nat,k≤n'∧ix=.int .i64 k∧Below w w wr) (fun ix _=>n'-(intOf ix).toNat)
 case atStart=>exact ⟨0,Nat.zero_le _,rfl,Below.refl _ _⟩
 case round=>
  obtain ⟨k,hk,rfl,hbw⟩:=hrel
  (obtain ⟨wk,hwk⟩:∃x,x=wr:=⟨_,rfl⟩);subst hwk
  by_cases hlt:k<n'
  · obtain ⟨b,off,rfl,hb,hc⟩:=(HL.out.up hbw).at y2;obtain ⟨b',off',rfl,hb',hc'⟩:=(HL'.out.up hbw).at y2;obtain ⟨c0,c1,c2,c3⟩:=hc k hlt;obtain ⟨d0,d1,d2,d3⟩:=hc' k hlt;clear hc hc';go_wp2_with fail
    refine aQ y8 y8 (fun ι F hne hF hcl=>?_);have hcF0:=fun n o=>(aK (hF n)).1 (b) o y4;have hcF1:=fun n o=>(aK (hF n)).1 (b') o y4;have HF:=ħ hF;clear hF;have HC:=ħ hcl;clear hcl
    repeat (any_goals (first
     | go_big_quiet_step (first|(fail))
     | (refine gq ?_ ?_<;>intro hb)))
    all_goals (refine wpQuiet_nil ?_;intro nq)
    have hFwf:=HF.out nq;clear HF HC hne;generalize F nq=wf at *;go_wp2_with fail
    (refine rnd ?_;exact ⟨k+1,by omega,by go_num,aA hbw hFwf⟩)
  · go_wp2_with fail
    go_ret
    exact ⟨rfl,hbw⟩
theorem fZ (b:bY) (A:Option Addr) (n c:Nat) (A':Option Addr) (n' c':Nat) (w:World) (hl:bZ w A n b.tx) (hl':bZ w A' n' b.tx) :
 Calls prog 43 #[.agg #[.int .i64 b.au,.int .i64 b.n,.slice A n c],.agg #[.int .i64 b.au,.int .i64 b.n,.slice A' n' c']] w fun e w'=>e=.returned (.bool true)∧Below w w w':=by
 have HL:=ħ hl;have HL':=ħ hl';clear hl hl';go_enter func43,ntmps43
 go_wp2_with fail
 refine (Bd _ _ _ _ _ _ b.tx _ (HL.out.up (aI)) (HL'.out.up (aI))).mono ?_;rintro e w1 ⟨rfl,hb1⟩;go_wp2_with fail
 go_ret
 exact ⟨rfl,aI⟩
end
end Go.Proofs.YtgfakefcmbpboaaGreat
