/- Part 7 of what WorkerExact leans on. No conditions. -/
import Derived.Test.YtgfakefcmbpboaaGreatV6
namespace Go.Proofs.YtgfakefcmbpboaaGreat
set_option linter.all false
set_option maxRecDepth 100000
set_option maxHeartbeats 64000000
open _root_.Go.Proofs.Tryz Go.RowKit
open Tok
theorem Ae (A:Option Addr) (n c:Nat) (xs:List Value) (w:World) (hr:iI w A n 4 xs) (h1x:∀u∈xs,u.oneCell'=true) (hn:n≤900000000) :
 Calls prog 113 #[.slice A n c] w fun r w'=>∃v',r=.returned v'∧w'.ownsRow w.heap.size 41 4 v' n xs∧Below w w w':=by
 obtain ⟨g1,g2,g3⟩:=hr;cases A with
 | none=>
  have h0:n=0:=by
   rcases Nat.eq_zero_or_pos n with h|h
   · exact h
   · obtain ⟨b,off,e,_⟩:=g3 h;cases e
  subst h0;have hx:xs=[]:=by simpa using g1
  subst hx;clear g1 g2 g3;have hnil:=Lib.run_eql_slice_nil (P:=prog) w 22 41 none 0 c 0 0 underlying22;go_enter func113,ntmps113
  go_wp2_with fail
  go_ret
  exact ⟨_,rfl,xJ _ _ _ _,Below.refl _ _⟩
 | some a=>
  have hown:(w.alloc (.cells #[] 41)).ownsRow w.heap.size 41 4 (.slice (some ⟨w,0,none⟩) 0 0) 0 []:=
   ⟨rfl,.inr ⟨w,0,#[],rfl,Nat.le_refl _,heap_alloc_new w _,Nat.le_refl _,by decide,rfl,rfl⟩⟩
  rcases Nat.eq_zero_or_pos n with h0|h0
  · subst h0;have hx:xs=[]:=by simpa using g1
    subst hx;clear g1 g2 g3;obtain ⟨b,off,sp⟩:=a
    have hrun:(Builtin.append_ #[22,22] 22 #[.slice (some ⟨w,0,none⟩) 0 0,.slice (some ⟨b,off,sp⟩) 0 c]).run prog (w.alloc (.cells #[] 41))=.ok (.slice (some ⟨w,0,none⟩) 0 0) (w.alloc (.cells #[] 41)):=by
     obtain ⟨i0,hi,hz,hz1,hz2⟩:=info_parts EA;simp [Builtin.append_,run_underlying underlying22,sizeOf,typeInfo,hi,Builtin.lenOf,Builtin.firstCells,loadCells,loadCellsFrom,storeCells]
    have HR:=ħ hrun;clear hrun;have hnil:=Lib.run_eql_slice_nil (P:=prog) w 22 41 (some ⟨b,off,sp⟩) 0 c 0 0 underlying22;go_enter func113,ntmps113
    go_wp2_with (at_builtin;refine Lib.wpList_append_run _ rfl _ _ _ _ rfl _ _ rfl rfl _ _ HR.out ?_)
    go_ret
    exact ⟨_,rfl,hown,(Below.refl _ _).alloc (Nat.le_refl _) _⟩
  · obtain ⟨b,off,e,hb,hc⟩:=g3 h0;injection e with e;subst e;have hba:Below w w (w.alloc (.cells #[] 41)):=(Below.refl _ _).alloc (Nat.le_refl _) _;obtain ⟨v',w',hrun,h2,h3,h4,h5⟩:=vH (w.alloc (.cells #[] 41)) w.heap.size _ 0 [] hown b off n c xs g1 (fun j u hj=>(hba.cell (p:=⟨b,off+j,none⟩) hb).trans (hc j u hj)) h1x y2 y17;rw [Nat.zero_add,List.nil_append] at h2;have HR:=ħ hrun;have H2:=ħ h2;have hbel:Below w w w':=hba.trans h4;clear hrun h2 h3 h4 h5 g1 g2 g3 hc hown;have hnil:=Lib.run_eql_slice_nil (P:=prog) w 22 41 (some ⟨b,off,none⟩) n c 0 0 underlying22;go_enter func113,ntmps113
    go_wp2_with (at_builtin;refine Lib.wpList_append_run _ rfl _ _ _ _ rfl _ _ rfl rfl _ _ HR.out ?_)
    go_ret
    exact ⟨_,rfl,H2.out,hbel⟩
theorem dM (A:Option Addr) (n c:Nat) (xs:List Value) (w:World) (hr:iI w A n 2 xs) (h1x:∀u∈xs,u.oneCell'=true) (hn:n≤900000000) :
 Calls prog 122 #[.slice A n c] w fun r w'=>∃v',r=.returned v'∧w'.ownsRow w.heap.size 56 2 v' n xs∧Below w w w':=by
 obtain ⟨g1,g2,g3⟩:=hr;cases A with
 | none=>
  have h0:n=0:=by
   rcases Nat.eq_zero_or_pos n with h|h
   · exact h
   · obtain ⟨b,off,e,_⟩:=g3 h;cases e
  subst h0;have hx:xs=[]:=by simpa using g1
  subst hx;clear g1 g2 g3;have hnil:=Lib.run_eql_slice_nil (P:=prog) w 23 56 none 0 c 0 0 underlying23;go_enter func122,ntmps122
  go_wp2_with fail
  go_ret
  exact ⟨_,rfl,xJ _ _ _ _,Below.refl _ _⟩
 | some a=>
  have hown:(w.alloc (.cells #[] 56)).ownsRow w.heap.size 56 2 (.slice (some ⟨w,0,none⟩) 0 0) 0 []:=
   ⟨rfl,.inr ⟨w,0,#[],rfl,Nat.le_refl _,heap_alloc_new w _,Nat.le_refl _,by decide,rfl,rfl⟩⟩
  rcases Nat.eq_zero_or_pos n with h0|h0
  · subst h0;have hx:xs=[]:=by simpa using g1
    subst hx;clear g1 g2 g3;obtain ⟨b,off,sp⟩:=a
    have hrun:(Builtin.append_ #[23,23] 23 #[.slice (some ⟨w,0,none⟩) 0 0,.slice (some ⟨b,off,sp⟩) 0 c]).run prog (w.alloc (.cells #[] 56))=.ok (.slice (some ⟨w,0,none⟩) 0 0) (w.alloc (.cells #[] 56)):=by
     obtain ⟨i0,hi,hz,hz1,hz2⟩:=info_parts mC;simp [Builtin.append_,run_underlying underlying23,sizeOf,typeInfo,hi,Builtin.lenOf,Builtin.firstCells,loadCells,loadCellsFrom,storeCells]
    have HR:=ħ hrun;clear hrun;have hnil:=Lib.run_eql_slice_nil (P:=prog) w 23 56 (some ⟨b,off,sp⟩) 0 c 0 0 underlying23;go_enter func122,ntmps122
    go_wp2_with (at_builtin;refine Lib.wpList_append_run _ rfl _ _ _ _ rfl _ _ rfl rfl _ _ HR.out ?_)
    go_ret
    exact ⟨_,rfl,hown,(Below.refl _ _).alloc (Nat.le_refl _) _⟩
  · obtain ⟨b,off,e,hb,hc⟩:=g3 h0;injection e with e;subst e;have hba:Below w w (w.alloc (.cells #[] 56)):=(Below.refl _ _).alloc (Nat.le_refl _) _;obtain ⟨v',w',hrun,h2,h3,h4,h5⟩:=jA (w.alloc (.cells #[] 56)) w.heap.size _ 0 [] hown b off n c xs g1 (fun j u hj=>(hba.cell (p:=⟨b,off+j,none⟩) hb).trans (hc j u hj)) h1x y2 y17;rw [Nat.zero_add,List.nil_append] at h2;have HR:=ħ hrun;have H2:=ħ h2;have hbel:Below w w w':=hba.trans h4;clear hrun h2 h3 h4 h5 g1 g2 g3 hc hown;have hnil:=Lib.run_eql_slice_nil (P:=prog) w 23 56 (some ⟨b,off,none⟩) n c 0 0 underlying23;go_enter func122,ntmps122
    go_wp2_with (at_builtin;refine Lib.wpList_append_run _ rfl _ _ _ _ rfl _ _ rfl rfl _ _ HR.out ?_)
    go_ret
    exact ⟨_,rfl,H2.out,hbel⟩
theorem xS (A:Option Addr) (n c:Nat) (xs:List Value) (w:World) (hr:iI w A n 4 xs) (h1x:∀u∈xs,u.oneCell'=true) (hn:n≤900000000) :
 Calls prog 143 #[.slice A n c] w fun r w'=>∃v',r=.returned v'∧w'.ownsRow w.heap.size 101 4 v' n xs∧Below w w w':=by
 obtain ⟨g1,g2,g3⟩:=hr;cases A with
 | none=>
  have h0:n=0:=by
   rcases Nat.eq_zero_or_pos n with h|h
   · exact h
   · obtain ⟨b,off,e,_⟩:=g3 h;cases e
  subst h0;have hx:xs=[]:=by simpa using g1
  subst hx;clear g1 g2 g3;have hnil:=Lib.run_eql_slice_nil (P:=prog) w 24 101 none 0 c 0 0 underlying24;go_enter func143,ntmps143
  go_wp2_with fail
  go_ret
  exact ⟨_,rfl,xJ _ _ _ _,Below.refl _ _⟩
 | some a=>
  have hown:(w.alloc (.cells #[] 101)).ownsRow w.heap.size 101 4 (.slice (some ⟨w,0,none⟩) 0 0) 0 []:=
   ⟨rfl,.inr ⟨w,0,#[],rfl,Nat.le_refl _,heap_alloc_new w _,Nat.le_refl _,by decide,rfl,rfl⟩⟩
  rcases Nat.eq_zero_or_pos n with h0|h0
  · subst h0;have hx:xs=[]:=by simpa using g1
    subst hx;clear g1 g2 g3;obtain ⟨b,off,sp⟩:=a
    have hrun:(Builtin.append_ #[24,24] 24 #[.slice (some ⟨w,0,none⟩) 0 0,.slice (some ⟨b,off,sp⟩) 0 c]).run prog (w.alloc (.cells #[] 101))=.ok (.slice (some ⟨w,0,none⟩) 0 0) (w.alloc (.cells #[] 101)):=by
     obtain ⟨i0,hi,hz,hz1,hz2⟩:=info_parts mB;simp [Builtin.append_,run_underlying underlying24,sizeOf,typeInfo,hi,Builtin.lenOf,Builtin.firstCells,loadCells,loadCellsFrom,storeCells]
    have HR:=ħ hrun;clear hrun;have hnil:=Lib.run_eql_slice_nil (P:=prog) w 24 101 (some ⟨b,off,sp⟩) 0 c 0 0 underlying24;go_enter func143,ntmps143
    go_wp2_with (at_builtin;refine Lib.wpList_append_run _ rfl _ _ _ _ rfl _ _ rfl rfl _ _ HR.out ?_)
    go_ret
    exact ⟨_,rfl,hown,(Below.refl _ _).alloc (Nat.le_refl _) _⟩
  · obtain ⟨b,off,e,hb,hc⟩:=g3 h0;injection e with e;subst e;have hba:Below w w (w.alloc (.cells #[] 101)):=(Below.refl _ _).alloc (Nat.le_refl _) _;obtain ⟨v',w',hrun,h2,h3,h4,h5⟩:=iZ (w.alloc (.cells #[] 101)) w.heap.size _ 0 [] hown b off n c xs g1 (fun j u hj=>(hba.cell (p:=⟨b,off+j,none⟩) hb).trans (hc j u hj)) h1x y2 y17;rw [Nat.zero_add,List.nil_append] at h2;have HR:=ħ hrun;have H2:=ħ h2;have hbel:Below w w w':=hba.trans h4;clear hrun h2 h3 h4 h5 g1 g2 g3 hc hown;have hnil:=Lib.run_eql_slice_nil (P:=prog) w 24 101 (some ⟨b,off,none⟩) n c 0 0 underlying24;go_enter func143,ntmps143
    go_wp2_with (at_builtin;refine Lib.wpList_append_run _ rfl _ _ _ _ rfl _ _ rfl rfl _ _ HR.out ?_)
    go_ret
    exact ⟨_,rfl,H2.out,hbel⟩
theorem fL (A:Option Addr) (n c:Nat) (l:List TxD) (w:World) (hl:bZ w A n l) (hn:n≤900000000) :
 Calls prog 113 #[.slice A n c] w fun e w'=>∃v,e=.returned v∧bD w' w.heap.size v l∧Below w w w':=
 (Ae A n c (eN kH l) w hl.2 (pY AL l) hn).mono fun e w' ⟨v,h1,h2,h3⟩=>⟨v,h1,by unfold bD;rw [hl.1];exact h2,h3⟩
theorem E0 {w:World} {A n l} (h:aL w A n l):iI w A n 1 (l.map (Value.int .i64)):=by
 refine ⟨by simp [h.1],h.2.1,fun hn=>?_⟩;obtain ⟨b,off,e,hb,hc⟩:=h.2.2 hn;refine ⟨b,off,e,hb,fun j u hj=>?_⟩;have hjl:j<l.length:=by have:=(List.getElem?_eq_some_iff.1 hj).1;simpa using this
 have e2:u=.int .i64 (nth l j):=by simp [List.getElem?_map,hjl,nth] at hj ⊢;exact hj.symm
 rw [e2];exact hc j (by rw [←h.1];exact hjl)
theorem jT (A:Option Addr) (n c:Nat) (l:List Int) (w:World) (hl:aL w A n l) (hn:n≤900000000) :
 Calls prog 125 #[.slice A n c] w fun e w'=>∃v,e=.returned v∧aE w' w.heap.size v l∧Below w w w':=
 (yK A n c (l.map (Value.int .i64)) w (E0 hl) (C7 l) hn).mono fun e w' ⟨v,h1,h2,h3⟩=>⟨v,h1,by unfold aE;rw [hl.1];exact h2,h3⟩
theorem tU (b:bY) (A:Option Addr) (n c:Nat) (w:World) (hl:bZ w A n b.tx) (hn:n≤800000000) :
 Calls prog 135 #[.agg #[b.au,b.n,.slice A n c]] w fun e w'=>∃v,e=.returned (.agg #[b.au,b.n,v])∧bD w' w.heap.size v b.tx∧Below w w w':=by
 have HL:=ħ hl;have HN:=ħ hl.1;clear hl;go_enter func135,ntmps135
 go_wp2_with fail
 refine (fL A n c b.tx _ (HL.out.up (aI)) y2).mono ?_;rintro e w1 ⟨v,rfl,hown,hb1⟩;obtain ⟨A1,c1,rfl,hx,_⟩:=hown.txs y30;rw [HN.out] at hx hown ⊢;have hown':=hown.mono (B':=w.heap.size+2) y17;have HO:=ħ hown';clear hown hown' hx;obtain ⟨hz_w1,hc0_w1,hc1_w1,hf0_w1,hf1_w1⟩:=af2 hb1 (w.heap.size+2) w.heap.size (w.heap.size+1);go_wp2_with fail
 exact bodyPost_ret (v:=.agg #[b.au,b.n,.slice A1 n c1]) (by simp [results,results135,go_sem, *]) rfl ⟨_,rfl,(by (refine bD.mono (B:=w.heap.size+2) ?_ y2);(repeat (first|(with_reducible exact HO.out)|((with_reducible refine bD.set3 ?_ ?_ _);rotate_left;(omega))))),aI⟩
theorem IQ {α:Type} [Inhabited α] (T:rQ α Value) {w:World} {A:Option Addr} {n:Nat} {l:List α} {R:Value→α→Prop} (h1:l.length=n) (h2:n≤9223372036854775807) (h3:0<n→∃b off,A=some ⟨b,off,none⟩∧b<w.heap.size∧∀j,j<n→∃p:Value,(∀r u,(T.enc (l.getD j default) p)[r]? =some u→w.cell? ⟨b,off+j*T.k+r,none⟩=some u)∧R p (l.getD j default)) :
 ∃qs:List Value,qs.length=l.length∧iI w A n T.k (aO T l qs)∧∀j,j<n→R (qs.getD j default) (l.getD j default):=by
 rcases Nat.eq_zero_or_pos n with h0|h0
 · subst h0;have e:l=[]:=List.length_eq_zero_iff.1 h1;subst e;exact ⟨[],rfl,⟨by simp [aO],by omega,fun h=>absurd h y2⟩,fun j hj=>absurd hj y2⟩
 · obtain ⟨b,off,e,hb,hc⟩:=h3 h0;obtain ⟨f,hf⟩:=Deep.choose_lt hc;refine ⟨(List.range n).map f,by simp [h1],⟨?_,h2,fun _=>⟨b,off,e,hb,fun j u hj=>?_⟩⟩,fun j hj=>?_⟩
   · rw [gP T (by simp [h1]),h1]
   · have hlen:(aO T l ((List.range n).map f)).length=l.length*T.k:=gP T (by simp [h1]);have hjl:j<l.length*T.k:=by rw [←hlen];exact (List.getElem?_eq_some_iff.1 hj).1
     have hk:=T.k0;have hq:j / T.k<l.length:=Nat.div_lt_of_lt_mul (by rw [Nat.mul_comm];exact hjl);have hr:j % T.k<T.k:=Nat.mod_lt _ hk;have hjj:j=(j / T.k)*T.k+j % T.k:=by have:=Nat.div_add_mod j T.k;rw [Nat.mul_comm] at this;omega
     have hj2:=hj;rw [hjj,cO T (by simp [h1]) hq hr] at hj2;have hg:((List.range n).map f).getD (j / T.k) default=f (j / T.k):=by simp [show j / T.k<n by omega]
     rw [hg] at hj2;have:=(hf (j / T.k) y2).1 (j % T.k) u hj2;rw [hjj,← Nat.add_assoc];exact this
   · have hg:((List.range n).map f).getD j default=f j:=by simp [hj]
     rw [hg];exact (hf j hj).2
theorem eC.rows {w : World} {A n l} (h : eC w A n l) : ∃ qs : List Value, qs.length = l.length ∧ iI w A n 2 (aO aN l qs) ∧ ∀ j, j < n → ∃ B m c, qs.getD j default = .slice B m c ∧ aL w B m (l.getD j default).ak :=
  IQ aN (R := fun p x => ∃ B m c, p = .slice B m c ∧ aL w B m x.ak) h.1 h.2.1 fun hn => by
    obtain ⟨b, off, e, hb, hc⟩ := h.2.2 hn
    refine ⟨b, off, e, hb, fun j hj => ?_⟩
    obtain ⟨B, m, d, ⟨c0, c1⟩, hi⟩ := hc j hj
    refine ⟨.slice B m d, fun r u hu => ?_, B, m, d, rfl, hi⟩
    match r, hu with
    | 0, hu => have e : Value.int .i64 (l.getD j default).di = u := by simpa [aN] using hu
               rw [← e]; exact c0
    | 1, hu => have e : Value.slice B m d = u := by simpa [aN] using hu
               rw [← e]; exact c1
    | r + 2, hu => simp [aN] at hu
theorem CV {l:List aV} {qs:List Value} (h:∀p∈qs,p.oneCell'=true):∀u∈aO aN l qs,u.oneCell'=true:=by
 intro u hu;unfold aO at hu;obtain ⟨c,hc,huc⟩:=List.mem_flatten.1 hu;obtain ⟨i,hi,rfl⟩:=List.getElem_of_mem hc;rw [List.getElem_zipWith] at huc;simp only [aN,List.mem_cons,List.not_mem_nil,or_false] at huc;rcases huc with rfl|rfl
 · rfl
 · exact h _ (List.getElem_mem _)
theorem DD {P:Program} {ops:Array Oper} {o:Oper} {a:Act} {w:World} {K:Act→World→Prop} {Q:Exit→Act→World→Prop} {E:Prop} (hg:o.guard=none) (s x:Operand) (t t':TypeId)
 (ho:o.op=.call {callee:=.builtin .append,args:=#[s,x],argTypes:=#[t,t']}) (v v9:Value) (hs:a.eval s=v) (hx:a.eval x=v9) (v':Value) (w':World) (hrun:(Builtin.append_ #[t,t'] o.type #[v,v9]).run P w=.ok v' w')
 (h:K (a.put o.dst v') w'):if Region.wanted o (yielded ops a.tmps)=true then Oper.wp P o a w K Q else E:=by
 have hw:Region.wanted o (yielded ops a.tmps)=true:=by simp [Region.wanted,hg]
 rw [if_pos hw];exact Lib.wp_append_run w s x _ _ ho v _ hs hx v' w' hrun h
theorem FW (w:World) (B:Nat) (v:Value) (ps:List Value) (l:List bI) (hown:aP eV w B v ps l) (g:Nat) (x:bI) (p:Value) (hbx:bX w g [x.di,x.b.au,x.b.n,p]) (hin:bD w B p x.b.tx) (hlen:l.length≤800000000) (hB:B≤w.heap.size) :
 ∃v' w',(Builtin.append_ #[24,24] 24 #[v,.slice (some ⟨g,0,none⟩) 1 1]).run prog w=.ok v' w'∧aP eV w' B v' (ps ++ [p]) (l ++ [x])∧w.grownBy w' v.ownBlock∧Below B w w':=by
 obtain ⟨v',w',hrun,h2,h3,h4,h5⟩:=iZ w B v l.length (aO eV l ps) hown.1 g 0 1 1 [x.di,x.b.au,x.b.n,p] rfl (fun r u hu=>by rw [Nat.zero_add];exact hbx.2 r u hu) (eV.one (w:=w) (B:=B) (p:=p) (x:=x) hin) y2 hB;exact ⟨v',w',hrun,hown.snoc hin h2 h3,h3,h4⟩
theorem Fm {ops:Array Oper} {o:Oper} {a:Act} {w:World} {K:Act→World→Prop} {Q:Exit→Act→World→Prop} {E:Prop} (hg:o.guard=none) (s x:Operand)
 (ho:o.op=.call {callee:=.builtin .append,args:=#[s,x],argTypes:=#[24,24]}) (hty:o.type=24) (B:Nat) (v:Value) (ps:List Value) (l:List bI) (hs:a.eval s=v) (hown:aP eV w B v ps l) (g:Nat) (y:bI) (p:Value) (hx:a.eval x=.slice (some ⟨g,0,none⟩) 1 1)
 (hbx:bX w g [y.di,y.b.au,y.b.n,p]) (hin:bD w B p y.b.tx) (hlen:l.length≤800000000) (hB:B≤w.heap.size)
 (h:∀v' w',aP eV w' B v' (ps ++ [p]) (l ++ [y])→w.grownBy w' v.ownBlock→Below B w w'→K (a.put o.dst v') w'):if Region.wanted o (yielded ops a.tmps)=true then Oper.wp prog o a w K Q else E:=by
 obtain ⟨v',w',hrun,h2,h3,h4⟩:=FW w B v ps l hown g y p hbx hin hlen hB;exact DD hg s x _ _ ho v _ hs hx v' w' y35 (h v' w' h2 h3 h4)
theorem Bt (A:Option Addr) (n c:Nat) (l:List bI) (w:World) (hl:dU w A n l) (hs:B9 l) :
 Calls prog 126 #[.slice A n c] w fun e w'=>∃v,e=.returned v∧bL w' w.heap.size v l∧Below w w w':=by
 have HL:=ħ hl;have hN:=hl.1;have hn:n≤800000000:=by rw [←hN];exact hs.1
 have HN:=ħ hN;have HS:=ħ hs;clear hl hN hs
 suffices h:Calls prog 126 #[.slice A n c] w fun e w'=>∃v ps,e=.returned v∧aP eV w' w.heap.size v ps l∧Below w w w' from h.mono fun e w' ⟨v,ps,h1,h2,h3⟩=>⟨v,h1,⟨ps,h2⟩,h3⟩
 go_enter func126,ntmps126
 go_wp2_with fail
 go_loopw [2,7] (fun v i wr=>∃(j:Nat) (ps:List Value),j≤n∧i=.int .i64 j∧aP eV wr w.heap.size v ps (l.take j)∧Below w w wr) (fun _ i _=>n-(intOf i).toNat)
 case atStart=>exact ⟨0,[],Nat.zero_le _,rfl,aP.nil _ _,Below.refl _ _⟩
 case round=>
  obtain ⟨j,ps,hj,rfl,hown,hbw⟩:=hrel
  (obtain ⟨wk,hwk⟩:∃x,x=wr:=⟨_,rfl⟩);subst hwk
  by_cases hlt:j<n
  · obtain ⟨b,off,rfl,hb,hc⟩:=(HL.out.up hbw).2.2 y2;obtain ⟨B,m,d,⟨c0,c1,c2,c3⟩,hin⟩:=hc j hlt;have hm:m≤800000000:=by rw [←hin.1];exact HS.out.2 _ (cB y18)
    have htk:l.take (j+1)=l.take j ++ [hth l j]:=by rw [List.take_succ_eq_append_getElem y18];simp [hth,show j<l.length by rw [HN.out];exact hlt]
    have HTK:=ħ htk;refine mn (hth l j) fun x hx=>?_;rw [hx] at hin c0 c1 c2;have HX:=ħ hx;have HIN:=ħ hin;have hlenj:(l.take j).length≤j:=by simp;omega
    have hsz:=hbw.size;have HO:=ħ hown;clear hc hin hx htk hown;go_upto_region 4 with fail
    have hA:Blk (wk.alloc (.cells #[x.di,x.b.au,x.b.n,.slice B m d] 101)) wk.heap.size 101 [x.di,x.b.au,x.b.n,.slice B m d]:=Blk.new wk 101 [x.di,x.b.au,x.b.n,.slice B m d];have hbX:Below wk wk (wk.alloc (.cells #[x.di,x.b.au,x.b.n,.slice B m d] 101)):=aJ;refine nm wk.heap.size fun g hg=>?_;rw [←hg] at hA;have hgk:wk.heap.size≤g:=by omega
    rw [←hg];generalize (wk.alloc (.cells #[x.di,x.b.au,x.b.n,.slice B m d] 101))=X at *;have HA:=ħ hA;have HOX:=ħ (HO.out.up hbX);have HINX:=ħ (HIN.out.up hbX);have hszX:w.heap.size≤X.heap.size:=Nat.le_trans hsz hbX.size;have HCL:Hid (∀Y,Below X X Y→Y.cell? ⟨g,0,none⟩=some (.int .i64 x.di)∧Y.cell? ⟨g,1,none⟩=some (.int .i64 x.b.au)∧Y.cell? ⟨g,2,none⟩=some (.int .i64 x.b.n)∧Y.cell? ⟨g,3,none⟩=some (.slice B m d)):=ħ (fun Y hY=>⟨(HA.out.up hY).box.2 0 _ rfl,(HA.out.up hY).box.2 1 _ rfl,(HA.out.up hY).box.2 2 _ rfl,(HA.out.up hY).box.2 3 _ rfl⟩)
    have HCG:Hid (∀Y Z,Below X X Y→Y.grownBy Z u2.ownBlock→Z.cell? ⟨g,0,none⟩=some (.int .i64 x.di)∧Z.cell? ⟨g,1,none⟩=some (.int .i64 x.b.au)∧Z.cell? ⟨g,2,none⟩=some (.int .i64 x.b.n)∧Z.cell? ⟨g,3,none⟩=some (.slice B m d)):=ħ (fun Y Z hY hZ=>by
     have hne:u2.ownBlock≠some g:=fun e=>by have:=(bV HO.out.1 _ e).2;omega
     have hk:=(HA.out.up hY).grown2 hZ hne;exact ⟨hk.box.2 0 _ rfl,hk.box.2 1 _ rfl,hk.box.2 2 _ rfl,hk.box.2 3 _ rfl⟩)
    have hlB:=hA.lt;clear hA hg c0 c1 c2 c3
    go_region_held3 (fun Y=>Y.cell? ⟨g,0,none⟩=some (.int .i64 x.di)∧Y.cell? ⟨g,1,none⟩=some (.int .i64 x.b.au)∧Y.cell? ⟨g,2,none⟩=some (.int .i64 x.b.n)∧Y.cell? ⟨g,3,none⟩=some (.slice B m d))
     ((first|(refine HCL.out _ ?_;((repeat (first|(with_reducible exact Below.refl _ _)|(with_reducible assumption)|(with_reducible apply aB)|(with_reducible apply aM)|(with_reducible apply gV)|(with_reducible refine aA ?_ y6)|(with_reducible refine aA ?_ (HF.out _))|((with_reducible refine iC ?_ ?_);rotate_left;omega))));done)|(refine HCG.out _ _ ?_ hg5;((repeat (first|(with_reducible exact Below.refl _ _)|(with_reducible assumption)|(with_reducible apply aB)|(with_reducible apply aM)|(with_reducible apply gV)|(with_reducible refine aA ?_ y6)|(with_reducible refine aA ?_ (HF.out _))|((with_reducible refine iC ?_ ?_);rotate_left;omega))));done)))
     (first
      | (refine Fm rfl (.tmp 11) (.tmp 18) rfl rfl w.heap.size u2 ps (l.take j) y9 (HOX.out.up (aI)) _ x v3 y9 (bX.new w3 [x.di,x.b.au,x.b.n,v3] 101) ((hown3.mono (by have:=hszX;simp;omega)).up (aI)) y2 (by have:=hszX;have:=hb3.size;simp at this;simp;omega) ?_;intro v5 w5 hown5 hg5 hb5)
      | (go_at_call 135;refine (tU x.b B m d _ (HINX.out.up (aI)) hm).mono ?_;rintro e9 w3 ⟨v3,rfl,hown3,hb3⟩))
    all_goals
     go_wp2_with fail
     (refine rnd ?_;exact ⟨j+1,ps ++ [v3],by omega,by go_num,by rw [HTK.out,HX.out];exact hown5,Below.trans (aA (aA (aA hbw hbX) (aA (aM (Below.refl _ _)) hb3)) (aI)) hb5⟩)
  · go_wp2_with fail
    go_ret
    have e:l.take j=l:=List.take_of_length_le y30;rw [e] at hown;exact ⟨_,_,rfl,hown,hbw⟩
def nxE (D:aD):Int:=if (D.op.length<8∧(D.op.length=0∨D.age<4))∨1099511627776≤D.next then 10 else if 1024≤D.he.length then 8 else 0
theorem sL {D:aD} (h:nxE D=0):(8≤D.op.length∨(D.op.length≠0∧4≤D.age))∧D.next<1099511627776∧D.he.length<1024:=by
 unfold nxE at h;split at h
 · omega
 · split at h
   · omega
   · omega
def nxD (D:aD):bY:=⟨D.id,D.next,D.op.take 8⟩
theorem tR (P:aF) (D:aD) (y:Int) (w:World) (h:bG w P D) (hy:nxE D=y) (hy0:y≠0) (hhe:D.he.length≤1024) :
 Calls prog 79 #[P.val D] w fun e w'=>e=.returned (.tuple #[.agg #[z0,z0,n0],y])∧Below w w w':=by
 have HO:Hid (bZ w P.op.A P.op.n D.op):=ħ h.op;have HON:Hid (D.op.length=P.op.n):=ħ h.op.1;have HEN:Hid (D.he.length=P.he.n):=ħ h.he.1;have hoc:P.op.n≤P.op.c:=h.oc;have hom:P.op.c≤9223372036854775807:=h.om;have hen:P.he.n≤9223372036854775807:=h.he.2.1;refine mn D.next fun next hnx=>?_;refine mn D.age fun age hag=>?_;have hen2:P.he.n≤1024:=by rw [←HEN.out];exact hhe
 have hY:y=if (P.op.n<8∧(P.op.n=0∨age<4))∨1099511627776≤next then 10 else if 1024≤P.he.n then 8 else 0:=by rw [←hy];unfold nxE;rw [HON.out,HEN.out,hnx,hag]
 have HY:=ħ hY;have HY0:=ħ hy0;show Calls prog 79 #[.agg (cW D P)] w _;rw [hnx,hag];clear h hy hy0 hhe hnx hag hY;have H10:Hid (((P.op.n<8∧(P.op.n=0∨age<4))∨1099511627776≤next)→y=10):=ħ (fun q=>by rw [HY.out,if_pos q]);have H8:Hid (¬((P.op.n<8∧(P.op.n=0∨age<4))∨1099511627776≤next)→1024≤P.he.n→y=8):=ħ (fun q r=>by rw [HY.out,if_neg q,if_pos r]);have H0:Hid (¬((P.op.n<8∧(P.op.n=0∨age<4))∨1099511627776≤next)→¬1024≤P.he.n→y=0):=ħ (fun q r=>by rw [HY.out,if_neg q,if_neg r])
 have hc:(P.op.n<8∧P.op.n=0∧y=10)∨(P.op.n<8∧0<P.op.n∧age<4∧y=10)∨(P.op.n<8∧0<P.op.n∧4≤age∧1099511627776≤next∧y=10)∨(P.op.n<8∧0<P.op.n∧4≤age∧next<1099511627776∧1024≤P.he.n∧y=8)∨(8≤P.op.n∧1099511627776≤next∧y=10)∨(8≤P.op.n∧next<1099511627776∧1024≤P.he.n∧y=8):=by
  by_cases a1:P.op.n<8
  · by_cases a2:P.op.n=0
    · exact .inl ⟨a1,a2,H10.out (.inl ⟨a1,.inl a2⟩)⟩
    · by_cases a3:age<4
      · exact .inr (.inl ⟨a1,by omega,a3,H10.out (.inl ⟨a1,.inr a3⟩)⟩)
      · by_cases a4:1099511627776≤next
        · exact .inr (.inr (.inl ⟨a1,by omega,by omega,a4,H10.out (.inr a4)⟩))
        · have q:¬((P.op.n<8∧(P.op.n=0∨age<4))∨1099511627776≤next):=by rintro (⟨_,q|q⟩|q)<;>omega
          by_cases a5:1024≤P.he.n
          · exact .inr (.inr (.inr (.inl ⟨a1,by omega,by omega,by omega,a5,H8.out q a5⟩)))
          · exact absurd (H0.out q a5) HY0.out
  · by_cases a4:1099511627776≤next
    · exact .inr (.inr (.inr (.inr (.inl ⟨by omega,a4,H10.out (.inr a4)⟩))))
    · have q:¬((P.op.n<8∧(P.op.n=0∨age<4))∨1099511627776≤next):=by rintro (⟨q,_⟩|q)<;>omega
      by_cases a5:1024≤P.he.n
      · exact .inr (.inr (.inr (.inr (.inr ⟨by omega,by omega,a5,H8.out q a5⟩))))
      · exact absurd (H0.out q a5) HY0.out
 clear H10 H8 H0 HY HY0;rcases hc with ⟨c1,c2,e⟩|⟨c1,c2,c3,e⟩|⟨c1,c2,c3,c4,e⟩|⟨c1,c2,c3,c4,c5,e⟩|⟨c1,c4,e⟩|⟨c1,c4,c5,e⟩
 all_goals
  subst e
  (try have c1d:decide ((P.op.n:Int)<8)=true:=y23)
  (try have c1d:decide ((P.op.n:Int)<8)=false:=y23)
  (try have c2d:((P.op.n:Int) == 0)=true:=y23)
  (try have c2d:((P.op.n:Int) == 0)=false:=y23)
  (try have c2e:decide ((0:Int)<(P.op.n:Int))=true:=y23)
  (try have c2e:decide ((0:Int)<(P.op.n:Int))=false:=y23)
  (try have c2f:decide (0<P.op.n)=false:=y23)
  (try have c2f:decide (0<P.op.n)=true:=y23)
  (try have c2g:0<P.op.n:=by omega)
  (try have c2g:¬0<P.op.n:=by omega)
  (try have c3d:decide (age<4)=true:=y23)
  (try have c3d:decide (age<4)=false:=y23)
  (try have c3e:decide (4≤age)=true:=y23)
  (try have c3e:decide (4≤age)=false:=y23)
  (try have c4d:decide (1099511627776≤next)=true:=y23)
  (try have c4d:decide (1099511627776≤next)=false:=y23)
  (try have c5d:((P.he.n:Int) == 1024)=true:=y23)
  (try have c5e:decide ((1024:Int)≤(P.he.n:Int))=true:=y23)
  (try clear c2)
  go_enter func79,ntmps79
  go_wp2_with fail
  first
   | exact bodyPost_ret (v:=.tuple #[.agg #[z0,z0,n0],.int .i64 10]) (by simp [results,results79,go_sem]) rfl ⟨rfl,aI⟩
   | exact bodyPost_ret (v:=.tuple #[.agg #[z0,z0,n0],.int .i64 8]) (by simp [results,results79,go_sem]) rfl ⟨rfl,aI⟩
theorem uU (P:aF) (D:aD) (y:Int) (w:World) (h:bG w P D) (hy:nxE D=y) (hy0:y≠0) (hhe:D.he.length≤1024) :
 Calls prog 41 #[P.val D] w fun e w'=>e=.returned (.tuple #[.agg #[z0,z0,n0],y])∧Below w w w':=by
 have HO:Hid (bZ w P.op.A P.op.n D.op):=ħ h.op;have HON:Hid (D.op.length=P.op.n):=ħ h.op.1;have HEN:Hid (D.he.length=P.he.n):=ħ h.he.1;have hoc:P.op.n≤P.op.c:=h.oc;have hom:P.op.c≤9223372036854775807:=h.om;have hen:P.he.n≤9223372036854775807:=h.he.2.1;refine mn D.next fun next hnx=>?_;refine mn D.age fun age hag=>?_;have hen2:P.he.n≤1024:=by rw [←HEN.out];exact hhe
 have hY:y=if (P.op.n<8∧(P.op.n=0∨age<4))∨1099511627776≤next then 10 else if 1024≤P.he.n then 8 else 0:=by rw [←hy];unfold nxE;rw [HON.out,HEN.out,hnx,hag]
 have HY:=ħ hY;have HY0:=ħ hy0;show Calls prog 41 #[.agg (cW D P)] w _;rw [hnx,hag];clear h hy hy0 hhe hnx hag hY;have H10:Hid (((P.op.n<8∧(P.op.n=0∨age<4))∨1099511627776≤next)→y=10):=ħ (fun q=>by rw [HY.out,if_pos q]);have H8:Hid (¬((P.op.n<8∧(P.op.n=0∨age<4))∨1099511627776≤next)→1024≤P.he.n→y=8):=ħ (fun q r=>by rw [HY.out,if_neg q,if_pos r]);have H0:Hid (¬((P.op.n<8∧(P.op.n=0∨age<4))∨1099511627776≤next)→¬1024≤P.he.n→y=0):=ħ (fun q r=>by rw [HY.out,if_neg q,if_neg r])
 have hc:(P.op.n<8∧P.op.n=0∧y=10)∨(P.op.n<8∧0<P.op.n∧age<4∧y=10)∨(P.op.n<8∧0<P.op.n∧4≤age∧1099511627776≤next∧y=10)∨(P.op.n<8∧0<P.op.n∧4≤age∧next<1099511627776∧1024≤P.he.n∧y=8)∨(8≤P.op.n∧1099511627776≤next∧y=10)∨(8≤P.op.n∧next<1099511627776∧1024≤P.he.n∧y=8):=by
  by_cases a1:P.op.n<8
  · by_cases a2:P.op.n=0
    · exact .inl ⟨a1,a2,H10.out (.inl ⟨a1,.inl a2⟩)⟩
    · by_cases a3:age<4
      · exact .inr (.inl ⟨a1,by omega,a3,H10.out (.inl ⟨a1,.inr a3⟩)⟩)
      · by_cases a4:1099511627776≤next
        · exact .inr (.inr (.inl ⟨a1,by omega,by omega,a4,H10.out (.inr a4)⟩))
        · have q:¬((P.op.n<8∧(P.op.n=0∨age<4))∨1099511627776≤next):=by rintro (⟨_,q|q⟩|q)<;>omega
          by_cases a5:1024≤P.he.n
          · exact .inr (.inr (.inr (.inl ⟨a1,by omega,by omega,by omega,a5,H8.out q a5⟩)))
          · exact absurd (H0.out q a5) HY0.out
  · by_cases a4:1099511627776≤next
    · exact .inr (.inr (.inr (.inr (.inl ⟨by omega,a4,H10.out (.inr a4)⟩))))
    · have q:¬((P.op.n<8∧(P.op.n=0∨age<4))∨1099511627776≤next):=by rintro (⟨q,_⟩|q)<;>omega
      by_cases a5:1024≤P.he.n
      · exact .inr (.inr (.inr (.inr (.inr ⟨by omega,by omega,a5,H8.out q a5⟩))))
      · exact absurd (H0.out q a5) HY0.out
 clear H10 H8 H0 HY HY0;rcases hc with ⟨c1,c2,e⟩|⟨c1,c2,c3,e⟩|⟨c1,c2,c3,c4,e⟩|⟨c1,c2,c3,c4,c5,e⟩|⟨c1,c4,e⟩|⟨c1,c4,c5,e⟩
 all_goals
  subst e
  (try have c1d:decide ((P.op.n:Int)<8)=true:=y23)
  (try have c1d:decide ((P.op.n:Int)<8)=false:=y23)
  (try have c2d:((P.op.n:Int) == 0)=true:=y23)
  (try have c2d:((P.op.n:Int) == 0)=false:=y23)
  (try have c2e:decide ((0:Int)<(P.op.n:Int))=true:=y23)
  (try have c2e:decide ((0:Int)<(P.op.n:Int))=false:=y23)
  (try have c2f:decide (0<P.op.n)=false:=y23)
  (try have c2f:decide (0<P.op.n)=true:=y23)
  (try have c2g:0<P.op.n:=by omega)
  (try have c2g:¬0<P.op.n:=by omega)
  (try have c3d:decide (age<4)=true:=y23)
  (try have c3d:decide (age<4)=false:=y23)
  (try have c3e:decide (4≤age)=true:=y23)
  (try have c3e:decide (4≤age)=false:=y23)
  (try have c4d:decide (1099511627776≤next)=true:=y23)
  (try have c4d:decide (1099511627776≤next)=false:=y23)
  (try have c5d:((P.he.n:Int) == 1024)=true:=y23)
  (try have c5e:decide ((1024:Int)≤(P.he.n:Int))=true:=y23)
  (try clear c2)
  go_enter func41,ntmps41
  go_wp2_with fail
  first
   | exact bodyPost_ret (v:=.tuple #[.agg #[z0,z0,n0],.int .i64 10]) (by simp [results,results41,go_sem]) rfl ⟨rfl,aI⟩
   | exact bodyPost_ret (v:=.tuple #[.agg #[z0,z0,n0],.int .i64 8]) (by simp [results,results41,go_sem]) rfl ⟨rfl,aI⟩
end Go.Proofs.YtgfakefcmbpboaaGreat
