/- Part 9 of what WorkerExact leans on. No conditions. -/
import Derived.Test.YtgfakefcmbpboaaGreatV7
namespace Go.Proofs.YtgfakefcmbpboaaGreat
set_option linter.all false
set_option maxRecDepth 100000
set_option maxHeartbeats 64000000
open _root_.Go.Proofs.Tryz Go.RowKit
open Tok
open Go.RowKit
theorem qC (w:World) (B:Nat) (v:Value) (n i:Nat) (xs e:List Value) (vb:Nat) (hown:w.ownsRow B 101 4 v n xs) (hi:i=n) (hn:n≤900000000) (hv:Blk w vb 101 e) (hvb:(v).ownBlock≠some vb) (h1x:∀u∈xs,u.oneCell'=true) (h1e:∀u∈e,u.oneCell'=true) (he:e.length=4) (hB:B≤w.heap.size) :
 Calls prog 142 #[v,i,.slice (some ⟨vb,0,none⟩) 1 1] w fun r w'=>∃v',r=.returned v'∧w'.ownsRow B 101 4 v' (n+1) (xs.take (i*4) ++ e ++ xs.drop (i*4))∧Below B w w'∧w.grownBy w' (v).ownBlock∧(v'.ownBlock=(v).ownBlock∨v'.ownBlock=some w.heap.size):=by
 have hbox:=hv.box;have hxl:=hown.1;subst hi;obtain ⟨v',w',hrun,h2,h3,h4,h5⟩:=iZ w B v i xs hown vb 0 1 1 e (by rw [he]) (fun j u hu=>by rw [Nat.zero_add];exact hbox.2 j u hu) h1e y2 hB;have hx:xs.take (i*4) ++ (e ++ xs.drop (i*4))=xs ++ e:=by rw [←hxl,List.take_length,List.drop_length,List.append_nil]
 rw [←hx] at h2;have H2:=ħ h2;clear hx h2 h1x h1e he hv hbox;obtain ⟨A,c,rfl,hrow,_,hnc,hc⟩:=dC hown y2;clear hrow hown hxl;cases A
 all_goals
  go_enter func142,ntmps142
  go_wp2_with (at_builtin;refine Lib.wpList_append_run _ rfl _ _ _ _ rfl _ _ rfl rfl _ _ hrun ?_)
  all_goals
   go_ret
   exact ⟨v',rfl,by first|exact H2.out|(rw [List.append_assoc];exact H2.out),h4,h3,h5⟩
theorem oI (w:World) (B:Nat) (n i:Nat) (xs e:List Value) (vb:Nat) (g cap:Nat) (cur:Array Value) (hown:w.ownsRow B 101 4 (Value.slice (some ⟨g,0,none⟩) n cap) n xs) (hi:i<n) (hn:n≤900000000) (hv:Blk w vb 101 e) (hvb:(Value.slice (some ⟨g,0,none⟩) n cap).ownBlock≠some vb) (h1x:∀u∈xs,u.oneCell'=true) (h1e:∀u∈e,u.oneCell'=true) (he:e.length=4) (hB:B≤w.heap.size) (hBg:B≤g) (hg:w.heap[g]? =some (.cells cur 101 (0,0))) (hnc:n≤cap) (hcm:cap≤maxLen) (hsz:cur.size=cap*4) (htk:cur.toList.take (n*4)=xs) (hroom:n<cap) :
 Calls prog 142 #[Value.slice (some ⟨g,0,none⟩) n cap,i,.slice (some ⟨vb,0,none⟩) 1 1] w fun r w'=>∃v',r=.returned v'∧w'.ownsRow B 101 4 v' (n+1) (xs.take (i*4) ++ e ++ xs.drop (i*4))∧Below B w w'∧w.grownBy w' (Value.slice (some ⟨g,0,none⟩) n cap).ownBlock∧(v'.ownBlock=(Value.slice (some ⟨g,0,none⟩) n cap).ownBlock∨v'.ownBlock=some w.heap.size):=by
 have hbox:=hv.box;have hxl:=hown.1;have hgl:g<w.heap.size:=(Array.getElem?_eq_some_iff.1 hg).1;have hvl:vb<w.heap.size:=hv.lt;have hgv:g≠vb:=fun h=>hvb y78;have hcm':cap≤9223372036854775807:=by simpa [maxLen] using hcm
 have hszi:(prog.info? 101).map (·.size)=some 4:=by
  obtain ⟨i0,hi0,h0,h1,h2⟩:=info_parts mB;rw [hi0];simp [h1]
 have hcell:∀j u,xs[j]? =some u→w.cell? ⟨g,j,none⟩=some u:=fun j u hj=>by
  have:=World.ownsRow.cells hown (g:=g) rfl j u hj;simpa [Addr.add_lit] using this
 have hw1:IntKind.i64.wrap ((i:Int)+1)=(i:Int)+1:=by rw [IntKind.wrap_i64];omega
 have hb1:(0:Int)≤(i:Int)+1:=by omega
 have htn:((i:Int)+1).toNat=i+1:=by omega
 have hb3:(i:Int)≤(n:Int):=by omega
 have hb4:(i:Int)≤(n:Int)+1:=by omega
 have hin:i≤n:=by omega
 have hbs:∃tA kA,w.shape? vb=some (tA,kA)∧w.frozen? ⟨vb,kA,none⟩=false:=⟨101,e.length,by unfold Blk at hv;simp [World.shape?,hv],hv.frozen _⟩;obtain ⟨tA,kA,hsa,hfe⟩:=hbs;have hsb:w.shape? g=some (101,cur.size):=by simp [World.shape?,hg]
 have hks:cur.size≠0:=by rw [hsz];omega
 have hov:∀lb cb,(callFunc 158 #[.slice (some ⟨vb,0,none⟩) 1 1,.slice (some ⟨g,(i+1)*4,none⟩) lb cb]).run prog w=.ok (.value (.bool false)) w:=fun lb cb=>by
  rw [run_callFunc_extern (P:=prog) (fn:=Tryz.f158) y8 y8 y8 y8 (e:=Extern.SlicesOverlaps.overlaps #[24,24] #[4]) y8,
   Lib.run_overlaps_apart w 24 4 101 underlying24 4 (by intro w;exact Tryz.sizeOf101 w) ⟨vb,0,none⟩ ⟨g,(i+1)*4,none⟩ 1 1 lb cb (fun h=>hgv h.symm) tA 101 kA cur.size hsa hsb hks (hv.frozen _) hfe]
  rfl
 have hmin1:Nat.min (n+1-i) (n-i)=n-i:=by simp only [Nat.min_def];split<;>omega
 have hmin2:Nat.min 1 (n+1-i)=1:=by simp only [Nat.min_def];split<;>omega
 have hdl:(xs.drop (i*4)).length=(n-i)*4:=by rw [List.length_drop,hxl];omega
 refine nm (cur.toList.take ((i+1)*4) ++ xs.drop (i*4) ++ cur.toList.drop ((i+1)*4+(xs.drop (i*4)).length)) fun r1 hr1=>?_;refine nm (r1.take (i*4) ++ e ++ r1.drop (i*4+e.length)) fun r2 hr2=>?_;have hcs:cur.toList.length=cap*4:=by simpa using hsz
 have hins:=AR (a:=i*4) (N:=n*4) (k:=4) (R:=cur.toList) hxl he y2 htk y2;rw [show i*4+4=(i+1)*4 by omega,← hr1,← hr2] at hins
 have hr1l:r1.length=cap*4:=by
  rw [hr1];simp only [List.length_append,List.length_take,List.length_drop,hcs,hxl];omega
 have hcp1:∀(W:World),W.heap=w.heap→∀ty dc sc,(Builtin.copy_ #[24,24] ty #[.slice (some ⟨g,(i+1)*4,none⟩) (n-i) dc,.slice (some ⟨g,i*4,none⟩) (n+1-i) sc]).run prog W=.ok (goInt (n-i:Nat)) (W.setRow g r1.toArray):=fun W hW ty dc sc=>by
  have h:=fB W 24 24 ty 101 g ((i+1)*4) (n-i) dc ⟨g,i*4,none⟩ (n+1-i) sc 4 cur 101 (xs.drop (i*4)) underlying24 hszi (by rw [hW];exact hg) (by rw [hmin1,hdl])
   (fun j u hj=>by
    rw [Addr.add_lit];rw [List.getElem?_drop] at hj;exact (World.cell?_of_block (w:=w) (w':=W) (a:=⟨g,i*4+j,none⟩) (by rw [hW])).trans (hcell _ u hj)) (by rw [hdl,hsz];omega) (fun u hu=>h1x u (List.mem_of_mem_drop hu))
  rw [hmin1,← hr1] at h;exact h
 have hcp2:∀(W:World),W.heap=(w.setRow g r1.toArray).heap→∀ty dc,(Builtin.copy_ #[24,24] ty #[.slice (some ⟨g,i*4,none⟩) (n+1-i) dc,.slice (some ⟨vb,0,none⟩) 1 1]).run prog W=.ok (goInt (1:Nat)) (W.setRow g r2.toArray):=fun W hW ty dc=>by
  have h:=fB W 24 24 ty 101 g (i*4) (n+1-i) dc ⟨vb,0,none⟩ 1 1 4 r1.toArray 101 e underlying24 hszi (by rw [hW];exact setRow_heap w g cur _ _ _ hg) y93
   (fun j u hj=>by
    rw [Addr.add_lit,Nat.zero_add];exact (World.cell?_of_block (w:=w) (w':=W) (a:=⟨vb,j,none⟩) y94).trans (hbox.2 j u hj)) (by simp only [List.size_toArray];omega) h1e
  rw [hmin2] at h;simp only [List.toList_toArray] at h;rw [←hr2] at h;exact h
 have hfin:∀W:World,W.heap=((w.setRow g r1.toArray).setRow g r2.toArray).heap→W.os=w.os→W.tape=w.tape→W.output=w.output→W.ownsRow B 101 4 (.slice (some ⟨g,0,none⟩) (n+1) cap) (n+1) (xs.take (i*4) ++ (e ++ xs.drop (i*4)))∧Below B w W∧w.grownBy W (Value.slice (some ⟨g,0,none⟩) n cap).ownBlock:=fun W hW h1 h2 h3=>by
  have hsz2:W.heap.size=w.heap.size:=by rw [hW];simp
  have hblk:∀k,k≠g→W.heap[k]? =w.heap[k]?:=fun k hk=>by rw [hW,setRow_other _ _ _ _ hk,setRow_other _ _ _ _ hk]
  refine ⟨⟨by simp only [List.length_append,List.length_take,List.length_drop,he,hxl];omega,.inr ⟨g,cap,r2.toArray,rfl,hBg,?_,by omega,hcm,?_,?_⟩⟩,⟨h1,h2,h3,by omega,fun k hk=>hblk k y2⟩,⟨h1,h2,h3,by omega,fun k hk hne=>hblk k (fun h=>hne y78)⟩⟩
  · rw [hW];exact setRow_heap _ g r1.toArray _ _ _ (setRow_heap w g cur _ _ _ hg)
  · have:=hins.2;rw [List.size_toArray,this];exact hcs
  · have:=hins.1;rw [show n*4+4=(n+1)*4 by omega] at this;rw [←List.append_assoc];exact this
 have HF:=ħ hfin;have hci:¬(cap=i+1):=by omega
 have hci2:¬(cap=i):=by omega
 clear hfin hins hr1 hr2 hdl hmin1 hmin2 hown hxl htk hsz hcs h1x h1e he hv hbox hcell hsa hfe hsb hks;go_enter func142,ntmps142
 go_wp2_with (simp only [hov])
 go_region_law (refine fO rfl _ _ 24 24 rfl (.slice (some ⟨g,(i+1)*4,none⟩) (n-i) (cap-(i+1))) (.slice (some ⟨g,i*4,none⟩) (n+1-i) (cap-i)) y9 y9 (hcp1 _ (by rfl) 3 (cap-(i+1)) (cap-i)) ?_)
 have hcp3:=hcp2 (w.drew.setRow g r1.toArray) rfl 3 (cap-i);go_wp2_with fail
 go_ret
 obtain ⟨a1,a2,a3⟩:=HF.out ((w.drew.setRow g r1.toArray).setRow g r2.toArray) rfl rfl rfl rfl;exact ⟨_,rfl,by first|exact a1|(rw [List.append_assoc];exact a1),a2,a3,.inl rfl⟩
theorem oH (w:World) (B:Nat) (n i:Nat) (xs e:List Value) (vb:Nat) (g cap:Nat) (cur:Array Value) (hown:w.ownsRow B 101 4 (Value.slice (some ⟨g,0,none⟩) n cap) n xs) (hi:i<n) (hn:n≤900000000) (hv:Blk w vb 101 e) (hvb:(Value.slice (some ⟨g,0,none⟩) n cap).ownBlock≠some vb) (h1x:∀u∈xs,u.oneCell'=true) (h1e:∀u∈e,u.oneCell'=true) (he:e.length=4) (hB:B≤w.heap.size) (hBg:B≤g) (hg:w.heap[g]? =some (.cells cur 101 (0,0))) (hnc:n≤cap) (hcm:cap≤maxLen) (hsz:cur.size=cap*4) (htk:cur.toList.take (n*4)=xs) (hroom:cap≤n) :
 Calls prog 142 #[Value.slice (some ⟨g,0,none⟩) n cap,i,.slice (some ⟨vb,0,none⟩) 1 1] w fun r w'=>∃v',r=.returned v'∧w'.ownsRow B 101 4 v' (n+1) (xs.take (i*4) ++ e ++ xs.drop (i*4))∧Below B w w'∧w.grownBy w' (Value.slice (some ⟨g,0,none⟩) n cap).ownBlock∧(v'.ownBlock=(Value.slice (some ⟨g,0,none⟩) n cap).ownBlock∨v'.ownBlock=some w.heap.size):=by
 have hbox:=hv.box;have hxl:=hown.1;have hgl:g<w.heap.size:=(Array.getElem?_eq_some_iff.1 hg).1;have hvl:vb<w.heap.size:=hv.lt;have hgv:g≠vb:=fun h=>hvb y78;have hcm':cap≤9223372036854775807:=by simpa [maxLen] using hcm
 have hszi:(prog.info? 101).map (·.size)=some 4:=by
  obtain ⟨i0,hi0,h0,h1,h2⟩:=info_parts mB;rw [hi0];simp [h1]
 have hcell:∀j u,xs[j]? =some u→w.cell? ⟨g,j,none⟩=some u:=fun j u hj=>by
  have:=World.ownsRow.cells hown (g:=g) rfl j u hj;simpa [Addr.add_lit] using this
 have hw1:IntKind.i64.wrap ((i:Int)+1)=(i:Int)+1:=by rw [IntKind.wrap_i64];omega
 have hb1:(0:Int)≤(i:Int)+1:=by omega
 have htn:((i:Int)+1).toNat=i+1:=by omega
 have hb3:(i:Int)≤(n:Int):=by omega
 have hb4:(i:Int)≤(n:Int)+1:=by omega
 have hin:i≤n:=by omega
 obtain ⟨i0,hi0,hz0,hzs,hzb⟩:=info_parts mB;have hcn:cap=n:=by omega
 have hold:(Builtin.firstCells i0.size i (.slice (some ⟨g,0,none⟩) i cap)).run prog w.drew=.ok (xs.take (i*4)).toArray w.drew:=by
  rw [hzs]
  exact run_firstCells_some w.drew 4 i ⟨g,0,none⟩ i cap (xs.take (i*4)) y34 (fun j u hj=>by
   rw [Addr.add_lit,Nat.zero_add];rw [List.getElem?_take] at hj;split at hj
   · exact hcell j u hj
   · cases hj)
 refine nm (grownCap w (n+1) cap 101) fun G hG=>?_;obtain ⟨ROW,hROW⟩:∃ROW:Array Value,ROW=(xs.take (i*4)).toArray ++ Builtin.zeroCells (.agg #[z0,z0,z0,n0]:Value).cells (n+1-i) ++ Builtin.zeroCells (.agg #[z0,z0,z0,n0]:Value).cells (G-(n+1)):=⟨_,rfl⟩
 have hrz:(Builtin.append_ #[24,3] 24 #[.slice (some ⟨g,0,none⟩) i cap,.int .i64 ((n:Int)+1-(i:Int))]).run prog w=
  .ok (.slice (some ⟨w,0,none⟩) (n+1) G) (w.drew.alloc (.cells ROW 101)):=by
  have h:=Lib.run_append_grow_zeros w 24 3 24 101 i0 _ .i64 .i64 underlying24 underlying3 hi0 hz0 (some ⟨g,0,none⟩) i cap (xs.take (i*4)) hold (n+1-i) y2 y2 y2 y2 (by rw [hzb];omega) Jq;rw [show i+(n+1-i)=n+1 by omega,← hG,← hROW] at h;rw [show (n:Int)+1-(i:Int)=((n+1-i:Nat):Int) by omega];exact h
 have hGn:n+1≤G:=by rw [hG];exact grownCap_ge w _ _ _
 have hG63:G≤9223372036854775807:=by
  have:=grownCap_le_maxLen w (n+1) cap 101 (by unfold maxLen;omega);rw [←hG] at this;simpa [maxLen] using this
 have hRl:ROW.size=G*4:=by
  rw [hROW];simp [Builtin.zeroCells,Value.cells,hxl];omega
 have hRt:ROW.toList.take (i*4)=xs.take (i*4):=by
  rw [hROW];simp only [Array.toList_append,List.append_assoc];rw [List.take_left' (by simp [hxl];omega)]
 refine nm (w.alloc (.cells ROW 101)) fun W1 hW1=>?_;have hW1h:W1.heap[w.heap.size]? =some (.cells ROW 101 (0,0)):=by rw [hW1];exact heap_alloc_new w _
 have hW1o:∀k,k<w.heap.size→W1.heap[k]? =w.heap[k]?:=fun k hk=>by rw [hW1];exact ((Below.refl w.heap.size w).alloc (Nat.le_refl _) _).block k hk
 have hW1s:W1.heap.size=w.heap.size+1:=by rw [hW1];simp
 have hmin1:Nat.min (n-i) (n-i)=n-i:=by simp only [Nat.min_def];split<;>omega
 have hmin2:Nat.min 1 (n+1-i)=1:=by simp only [Nat.min_def];split<;>omega
 have hdl:(xs.drop (i*4)).length=(n-i)*4:=by rw [List.length_drop,hxl];omega
 refine nm (ROW.toList.take (i*4) ++ e ++ ROW.toList.drop (i*4+e.length)) fun r1 hr1=>?_;refine nm (r1.take ((i+1)*4) ++ xs.drop (i*4) ++ r1.drop ((i+1)*4+(xs.drop (i*4)).length)) fun r2 hr2=>?_;have hcs:ROW.toList.length=G*4:=by simpa using hRl
 have hins:=Ch (a:=i*4) (N:=n*4) (k:=4) (R:=ROW.toList) hxl he y2 hRt y2;rw [show i*4+4=(i+1)*4 by omega,← hr1,← hr2] at hins
 have hr1l:r1.length=G*4:=by
  rw [hr1];simp only [List.length_append,List.length_take,List.length_drop,hcs,he];omega
 have hcpA:∀(W:World),W.heap=W1.heap→∀ty dc,(Builtin.copy_ #[24,24] ty #[.slice (some ⟨w,i*4,none⟩) (n+1-i) dc,.slice (some ⟨vb,0,none⟩) 1 1]).run prog W=.ok (goInt (1:Nat)) (W.setRow w.heap.size r1.toArray):=fun W hW ty dc=>by
  have h:=fB W 24 24 ty 101 w.heap.size (i*4) (n+1-i) dc ⟨vb,0,none⟩ 1 1 4 ROW 101 e underlying24 hszi (by rw [hW];exact hW1h) y93
   (fun j u hj=>by
    rw [Addr.add_lit,Nat.zero_add];exact (World.cell?_of_block (w:=w) (w':=W) (a:=⟨vb,j,none⟩) (by rw [hW];exact hW1o vb hvl)).trans (hbox.2 j u hj)) (by rw [hRl,he];omega) h1e
  rw [hmin2,← hr1] at h;exact h
 have hcpB:∀(W:World),W.heap=(W1.setRow w.heap.size r1.toArray).heap→∀ty dc sc,(Builtin.copy_ #[24,24] ty #[.slice (some ⟨w,(i+1)*4,none⟩) (n-i) dc,.slice (some ⟨g,i*4,none⟩) (n-i) sc]).run prog W=.ok (goInt (n-i:Nat)) (W.setRow w.heap.size r2.toArray):=fun W hW ty dc sc=>by
  have h:=fB W 24 24 ty 101 w.heap.size ((i+1)*4) (n-i) dc ⟨g,i*4,none⟩ (n-i) sc 4 r1.toArray 101 (xs.drop (i*4)) underlying24 hszi (by rw [hW];exact setRow_heap W1 _ ROW _ _ _ hW1h) (by rw [hmin1,hdl])
   (fun j u hj=>by
    rw [Addr.add_lit];rw [List.getElem?_drop] at hj;exact (World.cell?_of_block (w:=w) (w':=W) (a:=⟨g,i*4+j,none⟩) y81).trans (hcell _ u hj)) (by simp only [List.size_toArray];rw [hdl];omega) (fun u hu=>h1x u (List.mem_of_mem_drop hu))
  rw [hmin1] at h;simp only [List.toList_toArray] at h;rw [←hr2] at h;exact h
 have hfin:∀W:World,W.heap=((W1.setRow w.heap.size r1.toArray).setRow w.heap.size r2.toArray).heap→W.os=w.os→W.tape=w.tape→W.output=w.output→W.ownsRow B 101 4 (.slice (some ⟨w,0,none⟩) (n+1) G) (n+1) (xs.take (i*4) ++ (e ++ xs.drop (i*4)))∧Below B w W∧w.grownBy W (Value.slice (some ⟨g,0,none⟩) n cap).ownBlock:=fun W hW h1 h2 h3=>by
  have hsz2:W.heap.size=w.heap.size+1:=by rw [hW];simp [hW1s]
  have hblk:∀k,k<w.heap.size→W.heap[k]? =w.heap[k]?:=fun k hk=>by rw [hW,setRow_other _ _ _ _ y2,setRow_other _ _ _ _ y2];exact hW1o k hk
  refine ⟨⟨by simp only [List.length_append,List.length_take,List.length_drop,he,hxl];omega,.inr ⟨w,G,r2.toArray,rfl,hB,?_,by omega,by simpa [maxLen] using hG63,?_,?_⟩⟩,⟨h1,h2,h3,by omega,fun k hk=>hblk k y2⟩,⟨h1,h2,h3,by omega,fun k hk hne=>hblk k hk⟩⟩
  · rw [hW];exact setRow_heap _ _ r1.toArray _ _ _ (setRow_heap W1 _ ROW _ _ _ hW1h)
  · have:=hins.2;rw [List.size_toArray,this];exact hcs
  · have:=hins.1;rw [show n*4+4=(n+1)*4 by omega] at this;rw [←List.append_assoc];exact this
 have HF:=ħ hfin;have hGi:¬(G=i):=by omega
 have hGim:¬(G=i+1):=by omega
 have hci:¬(cap=i):=by omega
 have hcap1:(cap:Int)<(n:Int)+1:=by omega
 clear hfin hins hr1 hr2 hdl hmin1 hmin2 hown hxl htk hsz hcs h1x h1e he hv hbox hcell hold hROW hG hRl hRt hW1h hW1o hW1s hr1l;subst hW1;go_enter func142,ntmps142
 have HRZ:=ħ hrz;have HCA:=ħ hcpA;have HCB:=ħ hcpB;have hcpA1:=hcpA (w.alloc (.cells ROW 101)).drew rfl 3 (G-i);clear hrz hcpA hcpB hcn hi0 hz0 hzs hzb hszi;go_wp2_with (at_builtin;refine Lib.wpList_append_run _ rfl _ _ _ _ rfl _ _ rfl rfl _ _ HRZ.out ?_)
 go_region_law (refine fO rfl _ _ 24 24 rfl (.slice (some ⟨w,(i+1)*4,none⟩) (n-i) (G-(i+1))) (.slice (some ⟨g,i*4,none⟩) (n-i) (cap-i)) y9 y9 (HCB.out _ (by rfl) 3 (G-(i+1)) (cap-i)) ?_)
 go_wp2_with fail
 go_ret
 obtain ⟨a1,a2,a3⟩:=HF.out (((w.alloc (.cells ROW 101)).drew.setRow w.heap.size r1.toArray).drew.setRow w.heap.size r2.toArray) rfl rfl rfl rfl;exact ⟨_,rfl,by first|exact a1|(rw [List.append_assoc];exact a1),a2,a3,.inr rfl⟩
theorem vL (w:World) (B:Nat) (v:Value) (n i:Nat) (xs e:List Value) (vb:Nat) (hown:w.ownsRow B 101 4 v n xs) (hi:i≤n) (hn:n≤900000000) (hv:Blk w vb 101 e) (hvb:v.ownBlock≠some vb) (h1x:∀u∈xs,u.oneCell'=true) (h1e:∀u∈e,u.oneCell'=true) (he:e.length=4) (hB:B≤w.heap.size) :
 Calls prog 142 #[v,i,.slice (some ⟨vb,0,none⟩) 1 1] w fun r w'=>∃v',r=.returned v'∧w'.ownsRow B 101 4 v' (n+1) (xs.take (i*4) ++ e ++ xs.drop (i*4))∧Below B w w'∧w.grownBy w' v.ownBlock∧(v'.ownBlock=v.ownBlock∨v'.ownBlock=some w.heap.size):=by
 rcases Nat.lt_or_ge i n with hlt|hge
 · rcases hown.2 with ⟨_,h0⟩|⟨g,cap,cur,rfl,hBg,hg,hnc,hcm,hsz,htk⟩
   · omega
   · rcases Nat.lt_or_ge n cap with hroom|hroom
     · exact oI w B n i xs e vb g cap cur hown hlt hn hv hvb h1x h1e he hB hBg hg hnc hcm hsz htk hroom
     · exact oH w B n i xs e vb g cap cur hown hlt hn hv hvb h1x h1e he hB hBg hg hnc hcm hsz htk hroom
 · exact qC w B v n i xs e vb hown y2 hn hv hvb h1x h1e he hB
theorem qF (w:World) (B:Nat) (v:Value) (n i:Nat) (xs e:List Value) (vb:Nat) (hown:w.ownsRow B 56 2 v n xs) (hi:i=n) (hn:n≤900000000) (hv:Blk w vb 56 e) (hvb:(v).ownBlock≠some vb) (h1x:∀u∈xs,u.oneCell'=true) (h1e:∀u∈e,u.oneCell'=true) (he:e.length=2) (hB:B≤w.heap.size) :
 Calls prog 121 #[v,i,.slice (some ⟨vb,0,none⟩) 1 1] w fun r w'=>∃v',r=.returned v'∧w'.ownsRow B 56 2 v' (n+1) (xs.take (i*2) ++ e ++ xs.drop (i*2))∧Below B w w'∧w.grownBy w' (v).ownBlock∧(v'.ownBlock=(v).ownBlock∨v'.ownBlock=some w.heap.size):=by
 have hbox:=hv.box;have hxl:=hown.1;subst hi;obtain ⟨v',w',hrun,h2,h3,h4,h5⟩:=jA w B v i xs hown vb 0 1 1 e (by rw [he]) (fun j u hu=>by rw [Nat.zero_add];exact hbox.2 j u hu) h1e y2 hB;have hx:xs.take (i*2) ++ (e ++ xs.drop (i*2))=xs ++ e:=by rw [←hxl,List.take_length,List.drop_length,List.append_nil]
 rw [←hx] at h2;have H2:=ħ h2;clear hx h2 h1x h1e he hv hbox;obtain ⟨A,c,rfl,hrow,_,hnc,hc⟩:=dC hown y2;clear hrow hown hxl;cases A
 all_goals
  go_enter func121,ntmps121
  go_wp2_with (at_builtin;refine Lib.wpList_append_run _ rfl _ _ _ _ rfl _ _ rfl rfl _ _ hrun ?_)
  all_goals
   go_ret
   exact ⟨v',rfl,by first|exact H2.out|(rw [List.append_assoc];exact H2.out),h4,h3,h5⟩
theorem oK (w:World) (B:Nat) (n i:Nat) (xs e:List Value) (vb:Nat) (g cap:Nat) (cur:Array Value) (hown:w.ownsRow B 56 2 (Value.slice (some ⟨g,0,none⟩) n cap) n xs) (hi:i<n) (hn:n≤900000000) (hv:Blk w vb 56 e) (hvb:(Value.slice (some ⟨g,0,none⟩) n cap).ownBlock≠some vb) (h1x:∀u∈xs,u.oneCell'=true) (h1e:∀u∈e,u.oneCell'=true) (he:e.length=2) (hB:B≤w.heap.size) (hBg:B≤g) (hg:w.heap[g]? =some (.cells cur 56 (0,0))) (hnc:n≤cap) (hcm:cap≤maxLen) (hsz:cur.size=cap*2) (htk:cur.toList.take (n*2)=xs) (hroom:n<cap) :
 Calls prog 121 #[Value.slice (some ⟨g,0,none⟩) n cap,i,.slice (some ⟨vb,0,none⟩) 1 1] w fun r w'=>∃v',r=.returned v'∧w'.ownsRow B 56 2 v' (n+1) (xs.take (i*2) ++ e ++ xs.drop (i*2))∧Below B w w'∧w.grownBy w' (Value.slice (some ⟨g,0,none⟩) n cap).ownBlock∧(v'.ownBlock=(Value.slice (some ⟨g,0,none⟩) n cap).ownBlock∨v'.ownBlock=some w.heap.size):=by
 have hbox:=hv.box;have hxl:=hown.1;have hgl:g<w.heap.size:=(Array.getElem?_eq_some_iff.1 hg).1;have hvl:vb<w.heap.size:=hv.lt;have hgv:g≠vb:=fun h=>hvb y78;have hcm':cap≤9223372036854775807:=by simpa [maxLen] using hcm
 have hszi:(prog.info? 56).map (·.size)=some 2:=by
  obtain ⟨i0,hi0,h0,h1,h2⟩:=info_parts mC;rw [hi0];simp [h1]
 have hcell:∀j u,xs[j]? =some u→w.cell? ⟨g,j,none⟩=some u:=fun j u hj=>by
  have:=World.ownsRow.cells hown (g:=g) rfl j u hj;simpa [Addr.add_lit] using this
 have hw1:IntKind.i64.wrap ((i:Int)+1)=(i:Int)+1:=by rw [IntKind.wrap_i64];omega
 have hb1:(0:Int)≤(i:Int)+1:=by omega
 have htn:((i:Int)+1).toNat=i+1:=by omega
 have hb3:(i:Int)≤(n:Int):=by omega
 have hb4:(i:Int)≤(n:Int)+1:=by omega
 have hin:i≤n:=by omega
 have hbs:∃tA kA,w.shape? vb=some (tA,kA)∧w.frozen? ⟨vb,kA,none⟩=false:=⟨56,e.length,by unfold Blk at hv;simp [World.shape?,hv],hv.frozen _⟩;obtain ⟨tA,kA,hsa,hfe⟩:=hbs;have hsb:w.shape? g=some (56,cur.size):=by simp [World.shape?,hg]
 have hks:cur.size≠0:=by rw [hsz];omega
 have hov:∀lb cb,(callFunc 146 #[.slice (some ⟨vb,0,none⟩) 1 1,.slice (some ⟨g,(i+1)*2,none⟩) lb cb]).run prog w=.ok (.value (.bool false)) w:=fun lb cb=>by
  rw [run_callFunc_extern (P:=prog) (fn:=Tryz.f146) y8 y8 y8 y8 (e:=Extern.SlicesOverlaps.overlaps #[23,23] #[4]) y8,
   Lib.run_overlaps_apart w 23 4 56 underlying23 2 (by intro w;exact Tryz.sizeOf56 w) ⟨vb,0,none⟩ ⟨g,(i+1)*2,none⟩ 1 1 lb cb (fun h=>hgv h.symm) tA 56 kA cur.size hsa hsb hks (hv.frozen _) hfe]
  rfl
 have hmin1:Nat.min (n+1-i) (n-i)=n-i:=by simp only [Nat.min_def];split<;>omega
 have hmin2:Nat.min 1 (n+1-i)=1:=by simp only [Nat.min_def];split<;>omega
 have hdl:(xs.drop (i*2)).length=(n-i)*2:=by rw [List.length_drop,hxl];omega
 refine nm (cur.toList.take ((i+1)*2) ++ xs.drop (i*2) ++ cur.toList.drop ((i+1)*2+(xs.drop (i*2)).length)) fun r1 hr1=>?_;refine nm (r1.take (i*2) ++ e ++ r1.drop (i*2+e.length)) fun r2 hr2=>?_;have hcs:cur.toList.length=cap*2:=by simpa using hsz
 have hins:=AR (a:=i*2) (N:=n*2) (k:=2) (R:=cur.toList) hxl he y2 htk y2;rw [show i*2+2=(i+1)*2 by omega,← hr1,← hr2] at hins
 have hr1l:r1.length=cap*2:=by
  rw [hr1];simp only [List.length_append,List.length_take,List.length_drop,hcs,hxl];omega
 have hcp1:∀(W:World),W.heap=w.heap→∀ty dc sc,(Builtin.copy_ #[23,23] ty #[.slice (some ⟨g,(i+1)*2,none⟩) (n-i) dc,.slice (some ⟨g,i*2,none⟩) (n+1-i) sc]).run prog W=.ok (goInt (n-i:Nat)) (W.setRow g r1.toArray):=fun W hW ty dc sc=>by
  have h:=fB W 23 23 ty 56 g ((i+1)*2) (n-i) dc ⟨g,i*2,none⟩ (n+1-i) sc 2 cur 56 (xs.drop (i*2)) underlying23 hszi (by rw [hW];exact hg) (by rw [hmin1,hdl])
   (fun j u hj=>by
    rw [Addr.add_lit];rw [List.getElem?_drop] at hj;exact (World.cell?_of_block (w:=w) (w':=W) (a:=⟨g,i*2+j,none⟩) (by rw [hW])).trans (hcell _ u hj)) (by rw [hdl,hsz];omega) (fun u hu=>h1x u (List.mem_of_mem_drop hu))
  rw [hmin1,← hr1] at h;exact h
 have hcp2:∀(W:World),W.heap=(w.setRow g r1.toArray).heap→∀ty dc,(Builtin.copy_ #[23,23] ty #[.slice (some ⟨g,i*2,none⟩) (n+1-i) dc,.slice (some ⟨vb,0,none⟩) 1 1]).run prog W=.ok (goInt (1:Nat)) (W.setRow g r2.toArray):=fun W hW ty dc=>by
  have h:=fB W 23 23 ty 56 g (i*2) (n+1-i) dc ⟨vb,0,none⟩ 1 1 2 r1.toArray 56 e underlying23 hszi (by rw [hW];exact setRow_heap w g cur _ _ _ hg) y93
   (fun j u hj=>by
    rw [Addr.add_lit,Nat.zero_add];exact (World.cell?_of_block (w:=w) (w':=W) (a:=⟨vb,j,none⟩) y94).trans (hbox.2 j u hj)) (by simp only [List.size_toArray];omega) h1e
  rw [hmin2] at h;simp only [List.toList_toArray] at h;rw [←hr2] at h;exact h
 have hfin:∀W:World,W.heap=((w.setRow g r1.toArray).setRow g r2.toArray).heap→W.os=w.os→W.tape=w.tape→W.output=w.output→W.ownsRow B 56 2 (.slice (some ⟨g,0,none⟩) (n+1) cap) (n+1) (xs.take (i*2) ++ (e ++ xs.drop (i*2)))∧Below B w W∧w.grownBy W (Value.slice (some ⟨g,0,none⟩) n cap).ownBlock:=fun W hW h1 h2 h3=>by
  have hsz2:W.heap.size=w.heap.size:=by rw [hW];simp
  have hblk:∀k,k≠g→W.heap[k]? =w.heap[k]?:=fun k hk=>by rw [hW,setRow_other _ _ _ _ hk,setRow_other _ _ _ _ hk]
  refine ⟨⟨by simp only [List.length_append,List.length_take,List.length_drop,he,hxl];omega,.inr ⟨g,cap,r2.toArray,rfl,hBg,?_,by omega,hcm,?_,?_⟩⟩,⟨h1,h2,h3,by omega,fun k hk=>hblk k y2⟩,⟨h1,h2,h3,by omega,fun k hk hne=>hblk k (fun h=>hne y78)⟩⟩
  · rw [hW];exact setRow_heap _ g r1.toArray _ _ _ (setRow_heap w g cur _ _ _ hg)
  · have:=hins.2;rw [List.size_toArray,this];exact hcs
  · have:=hins.1;rw [show n*2+2=(n+1)*2 by omega] at this;rw [←List.append_assoc];exact this
 have HF:=ħ hfin;have hci:¬(cap=i+1):=by omega
 have hci2:¬(cap=i):=by omega
 clear hfin hins hr1 hr2 hdl hmin1 hmin2 hown hxl htk hsz hcs h1x h1e he hv hbox hcell hsa hfe hsb hks;go_enter func121,ntmps121
 go_wp2_with (simp only [hov])
 go_region_law (refine fO rfl _ _ 23 23 rfl (.slice (some ⟨g,(i+1)*2,none⟩) (n-i) (cap-(i+1))) (.slice (some ⟨g,i*2,none⟩) (n+1-i) (cap-i)) y9 y9 (hcp1 _ (by rfl) 3 (cap-(i+1)) (cap-i)) ?_)
 have hcp3:=hcp2 (w.drew.setRow g r1.toArray) rfl 3 (cap-i);go_wp2_with fail
 go_ret
 obtain ⟨a1,a2,a3⟩:=HF.out ((w.drew.setRow g r1.toArray).setRow g r2.toArray) rfl rfl rfl rfl;exact ⟨_,rfl,by first|exact a1|(rw [List.append_assoc];exact a1),a2,a3,.inl rfl⟩
theorem oJ (w:World) (B:Nat) (n i:Nat) (xs e:List Value) (vb:Nat) (g cap:Nat) (cur:Array Value) (hown:w.ownsRow B 56 2 (Value.slice (some ⟨g,0,none⟩) n cap) n xs) (hi:i<n) (hn:n≤900000000) (hv:Blk w vb 56 e) (hvb:(Value.slice (some ⟨g,0,none⟩) n cap).ownBlock≠some vb) (h1x:∀u∈xs,u.oneCell'=true) (h1e:∀u∈e,u.oneCell'=true) (he:e.length=2) (hB:B≤w.heap.size) (hBg:B≤g) (hg:w.heap[g]? =some (.cells cur 56 (0,0))) (hnc:n≤cap) (hcm:cap≤maxLen) (hsz:cur.size=cap*2) (htk:cur.toList.take (n*2)=xs) (hroom:cap≤n) :
 Calls prog 121 #[Value.slice (some ⟨g,0,none⟩) n cap,i,.slice (some ⟨vb,0,none⟩) 1 1] w fun r w'=>∃v',r=.returned v'∧w'.ownsRow B 56 2 v' (n+1) (xs.take (i*2) ++ e ++ xs.drop (i*2))∧Below B w w'∧w.grownBy w' (Value.slice (some ⟨g,0,none⟩) n cap).ownBlock∧(v'.ownBlock=(Value.slice (some ⟨g,0,none⟩) n cap).ownBlock∨v'.ownBlock=some w.heap.size):=by
 have hbox:=hv.box;have hxl:=hown.1;have hgl:g<w.heap.size:=(Array.getElem?_eq_some_iff.1 hg).1;have hvl:vb<w.heap.size:=hv.lt;have hgv:g≠vb:=fun h=>hvb y78;have hcm':cap≤9223372036854775807:=by simpa [maxLen] using hcm
 have hszi:(prog.info? 56).map (·.size)=some 2:=by
  obtain ⟨i0,hi0,h0,h1,h2⟩:=info_parts mC;rw [hi0];simp [h1]
 have hcell:∀j u,xs[j]? =some u→w.cell? ⟨g,j,none⟩=some u:=fun j u hj=>by
  have:=World.ownsRow.cells hown (g:=g) rfl j u hj;simpa [Addr.add_lit] using this
 have hw1:IntKind.i64.wrap ((i:Int)+1)=(i:Int)+1:=by rw [IntKind.wrap_i64];omega
 have hb1:(0:Int)≤(i:Int)+1:=by omega
 have htn:((i:Int)+1).toNat=i+1:=by omega
 have hb3:(i:Int)≤(n:Int):=by omega
 have hb4:(i:Int)≤(n:Int)+1:=by omega
 have hin:i≤n:=by omega
 obtain ⟨i0,hi0,hz0,hzs,hzb⟩:=info_parts mC;have hcn:cap=n:=by omega
 have hold:(Builtin.firstCells i0.size i (.slice (some ⟨g,0,none⟩) i cap)).run prog w.drew=.ok (xs.take (i*2)).toArray w.drew:=by
  rw [hzs]
  exact run_firstCells_some w.drew 2 i ⟨g,0,none⟩ i cap (xs.take (i*2)) y34 (fun j u hj=>by
   rw [Addr.add_lit,Nat.zero_add];rw [List.getElem?_take] at hj;split at hj
   · exact hcell j u hj
   · cases hj)
 refine nm (grownCap w (n+1) cap 56) fun G hG=>?_;obtain ⟨ROW,hROW⟩:∃ROW:Array Value,ROW=(xs.take (i*2)).toArray ++ Builtin.zeroCells (.agg #[z0,n0]:Value).cells (n+1-i) ++ Builtin.zeroCells (.agg #[z0,n0]:Value).cells (G-(n+1)):=⟨_,rfl⟩
 have hrz:(Builtin.append_ #[23,3] 23 #[.slice (some ⟨g,0,none⟩) i cap,.int .i64 ((n:Int)+1-(i:Int))]).run prog w=
  .ok (.slice (some ⟨w,0,none⟩) (n+1) G) (w.drew.alloc (.cells ROW 56)):=by
  have h:=Lib.run_append_grow_zeros w 23 3 23 56 i0 _ .i64 .i64 underlying23 underlying3 hi0 hz0 (some ⟨g,0,none⟩) i cap (xs.take (i*2)) hold (n+1-i) y2 y2 y2 y2 (by rw [hzb];omega) Jq;rw [show i+(n+1-i)=n+1 by omega,← hG,← hROW] at h;rw [show (n:Int)+1-(i:Int)=((n+1-i:Nat):Int) by omega];exact h
 have hGn:n+1≤G:=by rw [hG];exact grownCap_ge w _ _ _
 have hG63:G≤9223372036854775807:=by
  have:=grownCap_le_maxLen w (n+1) cap 56 (by unfold maxLen;omega);rw [←hG] at this;simpa [maxLen] using this
 have hRl:ROW.size=G*2:=by
  rw [hROW];simp [Builtin.zeroCells,Value.cells,hxl];omega
 have hRt:ROW.toList.take (i*2)=xs.take (i*2):=by
  rw [hROW];simp only [Array.toList_append,List.append_assoc];rw [List.take_left' (by simp [hxl];omega)]
 refine nm (w.alloc (.cells ROW 56)) fun W1 hW1=>?_;have hW1h:W1.heap[w.heap.size]? =some (.cells ROW 56 (0,0)):=by rw [hW1];exact heap_alloc_new w _
 have hW1o:∀k,k<w.heap.size→W1.heap[k]? =w.heap[k]?:=fun k hk=>by rw [hW1];exact ((Below.refl w.heap.size w).alloc (Nat.le_refl _) _).block k hk
 have hW1s:W1.heap.size=w.heap.size+1:=by rw [hW1];simp
 have hmin1:Nat.min (n-i) (n-i)=n-i:=by simp only [Nat.min_def];split<;>omega
 have hmin2:Nat.min 1 (n+1-i)=1:=by simp only [Nat.min_def];split<;>omega
 have hdl:(xs.drop (i*2)).length=(n-i)*2:=by rw [List.length_drop,hxl];omega
 refine nm (ROW.toList.take (i*2) ++ e ++ ROW.toList.drop (i*2+e.length)) fun r1 hr1=>?_;refine nm (r1.take ((i+1)*2) ++ xs.drop (i*2) ++ r1.drop ((i+1)*2+(xs.drop (i*2)).length)) fun r2 hr2=>?_;have hcs:ROW.toList.length=G*2:=by simpa using hRl
 have hins:=Ch (a:=i*2) (N:=n*2) (k:=2) (R:=ROW.toList) hxl he y2 hRt y2;rw [show i*2+2=(i+1)*2 by omega,← hr1,← hr2] at hins
 have hr1l:r1.length=G*2:=by
  rw [hr1];simp only [List.length_append,List.length_take,List.length_drop,hcs,he];omega
 have hcpA:∀(W:World),W.heap=W1.heap→∀ty dc,(Builtin.copy_ #[23,23] ty #[.slice (some ⟨w,i*2,none⟩) (n+1-i) dc,.slice (some ⟨vb,0,none⟩) 1 1]).run prog W=.ok (goInt (1:Nat)) (W.setRow w.heap.size r1.toArray):=fun W hW ty dc=>by
  have h:=fB W 23 23 ty 56 w.heap.size (i*2) (n+1-i) dc ⟨vb,0,none⟩ 1 1 2 ROW 56 e underlying23 hszi (by rw [hW];exact hW1h) y93
   (fun j u hj=>by
    rw [Addr.add_lit,Nat.zero_add];exact (World.cell?_of_block (w:=w) (w':=W) (a:=⟨vb,j,none⟩) (by rw [hW];exact hW1o vb hvl)).trans (hbox.2 j u hj)) (by rw [hRl,he];omega) h1e
  rw [hmin2,← hr1] at h;exact h
 have hcpB:∀(W:World),W.heap=(W1.setRow w.heap.size r1.toArray).heap→∀ty dc sc,(Builtin.copy_ #[23,23] ty #[.slice (some ⟨w,(i+1)*2,none⟩) (n-i) dc,.slice (some ⟨g,i*2,none⟩) (n-i) sc]).run prog W=.ok (goInt (n-i:Nat)) (W.setRow w.heap.size r2.toArray):=fun W hW ty dc sc=>by
  have h:=fB W 23 23 ty 56 w.heap.size ((i+1)*2) (n-i) dc ⟨g,i*2,none⟩ (n-i) sc 2 r1.toArray 56 (xs.drop (i*2)) underlying23 hszi (by rw [hW];exact setRow_heap W1 _ ROW _ _ _ hW1h) (by rw [hmin1,hdl])
   (fun j u hj=>by
    rw [Addr.add_lit];rw [List.getElem?_drop] at hj;exact (World.cell?_of_block (w:=w) (w':=W) (a:=⟨g,i*2+j,none⟩) y81).trans (hcell _ u hj)) (by simp only [List.size_toArray];rw [hdl];omega) (fun u hu=>h1x u (List.mem_of_mem_drop hu))
  rw [hmin1] at h;simp only [List.toList_toArray] at h;rw [←hr2] at h;exact h
 have hfin:∀W:World,W.heap=((W1.setRow w.heap.size r1.toArray).setRow w.heap.size r2.toArray).heap→W.os=w.os→W.tape=w.tape→W.output=w.output→W.ownsRow B 56 2 (.slice (some ⟨w,0,none⟩) (n+1) G) (n+1) (xs.take (i*2) ++ (e ++ xs.drop (i*2)))∧Below B w W∧w.grownBy W (Value.slice (some ⟨g,0,none⟩) n cap).ownBlock:=fun W hW h1 h2 h3=>by
  have hsz2:W.heap.size=w.heap.size+1:=by rw [hW];simp [hW1s]
  have hblk:∀k,k<w.heap.size→W.heap[k]? =w.heap[k]?:=fun k hk=>by rw [hW,setRow_other _ _ _ _ y2,setRow_other _ _ _ _ y2];exact hW1o k hk
  refine ⟨⟨by simp only [List.length_append,List.length_take,List.length_drop,he,hxl];omega,.inr ⟨w,G,r2.toArray,rfl,hB,?_,by omega,by simpa [maxLen] using hG63,?_,?_⟩⟩,⟨h1,h2,h3,by omega,fun k hk=>hblk k y2⟩,⟨h1,h2,h3,by omega,fun k hk hne=>hblk k hk⟩⟩
  · rw [hW];exact setRow_heap _ _ r1.toArray _ _ _ (setRow_heap W1 _ ROW _ _ _ hW1h)
  · have:=hins.2;rw [List.size_toArray,this];exact hcs
  · have:=hins.1;rw [show n*2+2=(n+1)*2 by omega] at this;rw [←List.append_assoc];exact this
 have HF:=ħ hfin;have hGi:¬(G=i):=by omega
 have hGim:¬(G=i+1):=by omega
 have hci:¬(cap=i):=by omega
 have hcap1:(cap:Int)<(n:Int)+1:=by omega
 clear hfin hins hr1 hr2 hdl hmin1 hmin2 hown hxl htk hsz hcs h1x h1e he hv hbox hcell hold hROW hG hRl hRt hW1h hW1o hW1s hr1l;subst hW1;go_enter func121,ntmps121
 have HRZ:=ħ hrz;have HCA:=ħ hcpA;have HCB:=ħ hcpB;have hcpA1:=hcpA (w.alloc (.cells ROW 56)).drew rfl 3 (G-i);clear hrz hcpA hcpB hcn hi0 hz0 hzs hzb hszi;go_wp2_with (at_builtin;refine Lib.wpList_append_run _ rfl _ _ _ _ rfl _ _ rfl rfl _ _ HRZ.out ?_)
 go_region_law (refine fO rfl _ _ 23 23 rfl (.slice (some ⟨w,(i+1)*2,none⟩) (n-i) (G-(i+1))) (.slice (some ⟨g,i*2,none⟩) (n-i) (cap-i)) y9 y9 (HCB.out _ (by rfl) 3 (G-(i+1)) (cap-i)) ?_)
 go_wp2_with fail
 go_ret
 obtain ⟨a1,a2,a3⟩:=HF.out (((w.alloc (.cells ROW 56)).drew.setRow w.heap.size r1.toArray).drew.setRow w.heap.size r2.toArray) rfl rfl rfl rfl;exact ⟨_,rfl,by first|exact a1|(rw [List.append_assoc];exact a1),a2,a3,.inr rfl⟩
theorem eE (w:World) (B:Nat) (v:Value) (n i:Nat) (xs e:List Value) (vb:Nat) (hown:w.ownsRow B 56 2 v n xs) (hi:i≤n) (hn:n≤900000000) (hv:Blk w vb 56 e) (hvb:v.ownBlock≠some vb) (h1x:∀u∈xs,u.oneCell'=true) (h1e:∀u∈e,u.oneCell'=true) (he:e.length=2) (hB:B≤w.heap.size) :
 Calls prog 121 #[v,i,.slice (some ⟨vb,0,none⟩) 1 1] w fun r w'=>∃v',r=.returned v'∧w'.ownsRow B 56 2 v' (n+1) (xs.take (i*2) ++ e ++ xs.drop (i*2))∧Below B w w'∧w.grownBy w' v.ownBlock∧(v'.ownBlock=v.ownBlock∨v'.ownBlock=some w.heap.size):=by
 rcases Nat.lt_or_ge i n with hlt|hge
 · rcases hown.2 with ⟨_,h0⟩|⟨g,cap,cur,rfl,hBg,hg,hnc,hcm,hsz,htk⟩
   · omega
   · rcases Nat.lt_or_ge n cap with hroom|hroom
     · exact oK w B n i xs e vb g cap cur hown hlt hn hv hvb h1x h1e he hB hBg hg hnc hcm hsz htk hroom
     · exact oJ w B n i xs e vb g cap cur hown hlt hn hv hvb h1x h1e he hB hBg hg hnc hcm hsz htk hroom
 · exact qF w B v n i xs e vb hown y2 hn hv hvb h1x h1e he hB
def bM {α:Type} (l:List α) (i:Nat) (x:α):List α:=l.take i ++ x :: l.drop i
theorem cP {α:Type} {l:List α} {i:Nat} {x:α} (hi:i≤l.length):(bM l i x).length=l.length+1:=by
 unfold bM;simp;omega
section
variable {α β:Type} (T:rQ α β)
theorem jK {l m:List α} {ps qs:List β} (h:ps.length=l.length):aO T (l ++ m) (ps ++ qs)=aO T l ps ++ aO T m qs:=by
 unfold aO;rw [List.zipWith_append h.symm];simp
theorem yZ {l:List α} {ps:List β} (h:ps.length=l.length) {i:Nat} (hi:i≤l.length):aO T (l.take i) (ps.take i)=(aO T l ps).take (i*T.k)∧aO T (l.drop i) (ps.drop i)=(aO T l ps).drop (i*T.k):=by
 have h1:(ps.take i).length=(l.take i).length:=by simp;omega
 have e:=jK T (l:=l.take i) (m:=l.drop i) (ps:=ps.take i) (qs:=ps.drop i) h1;rw [List.take_append_drop,List.take_append_drop] at e;have hl:(aO T (l.take i) (ps.take i)).length=i*T.k:=by rw [gP T h1];simp [Nat.min_eq_left hi]
 rw [e];exact ⟨(List.take_left' hl).symm,(List.drop_left' hl).symm⟩
theorem D2 {l:List α} {ps:List β} (h:ps.length=l.length) {i:Nat} (hi:i≤l.length) (x:α) (p:β):aO T (bM l i x) (bM ps i p)=(aO T l ps).take (i*T.k) ++ T.enc x p ++ (aO T l ps).drop (i*T.k):=by
 have h1:(ps.take i).length=(l.take i).length:=by simp;omega
 obtain ⟨e1,e2⟩:=yZ T h hi;unfold bM;rw [jK T h1,e1,show x :: l.drop i=[x] ++ l.drop i from rfl,show p :: ps.drop i=[p] ++ ps.drop i from rfl,jK T rfl,e2,List.append_assoc];simp [aO]
variable [Inhabited α] [Inhabited β]
variable {T}
theorem aP.ins {w w':World} {B:Nat} {v v':Value} {ps:List β} {l:List α} {x:α} {p:β} {i:Nat} (h:aP T w B v ps l) (hi:i≤l.length) (hin:T.inner w B p x) (hown:w'.ownsRow B T.t T.k v' (l.length+1) ((aO T l ps).take (i*T.k) ++ T.enc x p ++ (aO T l ps).drop (i*T.k))) (hg:w.grownBy w' v.ownBlock):aP T w' B v' (bM ps i p) (bM l i x):=by
 have hpl:=h.2.1;refine ⟨by rw [D2 T h.2.1 hi,cP hi];exact hown,by rw [cP hi,cP y2];omega,fun j hj=>?_⟩;rw [cP hi] at hj;rcases Nat.lt_trichotomy j i with hji|hji|hji
 · have e1:(bM ps i p).getD j default=ps.getD j default:=by
    unfold bM;simp [List.getElem?_append,List.getElem?_take,hji,show j<ps.length by omega,show j<min i ps.length by omega]
   have e2:(bM l i x).getD j default=l.getD j default:=by
    unfold bM;simp [List.getElem?_append,List.getElem?_take,hji,show j<l.length by omega,show j<min i l.length by omega]
   rw [e1,e2];exact T.grown (h.2.2 j y2) h.1 hg
 · subst hji
   have e1:(bM ps j p).getD j default=p:=by
    unfold bM;simp [List.getElem?_append,show min j ps.length=j by omega]
   have e2:(bM l j x).getD j default=x:=by
    unfold bM;simp [List.getElem?_append,show min j l.length=j by omega]
   rw [e1,e2];exact T.grown hin h.1 hg
 · have e1:(bM ps i p).getD j default=ps.getD (j-1) default:=by
    unfold bM;simp only [List.getD_eq_getElem?_getD];rw [List.getElem?_append_right y13,List.length_take,show min i ps.length=i by omega,show j-i=(j-i-1)+1 by omega,List.getElem?_cons_succ,List.getElem?_drop,show i+(j-i-1)=j-1 by omega]
   have e2:(bM l i x).getD j default=l.getD (j-1) default:=by
    unfold bM;simp only [List.getD_eq_getElem?_getD];rw [List.getElem?_append_right y13,List.length_take,show min i l.length=i by omega,show j-i=(j-i-1)+1 by omega,List.getElem?_cons_succ,List.getElem?_drop,show i+(j-i-1)=j-1 by omega]
   rw [e1,e2];exact T.grown (h.2.2 (j-1) y2) h.1 hg
theorem aP.one {w:World} {B:Nat} {v:Value} {ps:List β} {l:List α} (h:aP T w B v ps l):∀u∈aO T l ps,u.oneCell'=true:=by
 intro u hu;unfold aO at hu;obtain ⟨c,hc,huc⟩:=List.mem_flatten.1 hu;obtain ⟨i,hi,rfl⟩:=List.getElem_of_mem hc;rw [List.getElem_zipWith] at huc;rw [List.length_zipWith] at hi;have:=h.2.2 i y2;have e1:ps.getD i default=ps[i]'y2:=by simp [show i<ps.length by omega]
 have e2:l.getD i default=l[i]'y2:=by simp [show i<l.length by omega]
 rw [e1,e2] at this;exact T.one this u huc
end
end Go.Proofs.YtgfakefcmbpboaaGreat
