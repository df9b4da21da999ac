/- Part 16 of what WorkerExact leans on. No conditions. -/
import Derived.Test.YtgfakefcmbpboaaGreatV9
import Derived.Test.YtgfakefcmbpboaaGreatV11
namespace Go.Proofs.YtgfakefcmbpboaaGreat
set_option linter.all false
set_option maxRecDepth 100000
set_option maxHeartbeats 64000000
open _root_.Go.Proofs.Tryz Go.RowKit
open Tok
theorem rY (w:World) (B:Nat) (v:Value) (n i:Nat) (xs e:List Value) (vb:Nat) (hown:w.ownsRow B 3 1 v n xs) (hi:i=n) (hn:n≤900000000) (hv:Blk w vb 3 e) (hvb:(v).ownBlock≠some vb) (h1x:∀u∈xs,u.oneCell'=true) (h1e:∀u∈e,u.oneCell'=true) (he:e.length=1) (hB:B≤w.heap.size) :
 Calls prog 155 #[v,i,.slice (some ⟨vb,0,none⟩) 1 1] w fun r w'=>∃v',r=.returned v'∧w'.ownsRow B 3 1 v' (n+1) (xs.take (i) ++ e ++ xs.drop (i))∧Below B w w'∧w.grownBy w' (v).ownBlock∧(v'.ownBlock=(v).ownBlock∨v'.ownBlock=some w.heap.size):=by
 have hbox:=hv.box;have hxl:xs.length=n:=by have h9:=hown.1;omega
 subst hi;obtain ⟨v',w',hrun,h2,h3,h4,h5⟩:=kC w B v i xs hown vb 0 1 1 e (by rw [he]) (fun j u hu=>by rw [Nat.zero_add];exact hbox.2 j u hu) h1e y2 hB;have hx:xs.take (i) ++ (e ++ xs.drop (i))=xs ++ e:=by rw [←hxl,List.take_length,List.drop_length,List.append_nil]
 rw [←hx] at h2;have H2:=ħ h2;clear hx h2 h1x h1e he hv hbox;obtain ⟨A,c,rfl,hrow,_,hnc,hc⟩:=dC hown y2;clear hrow hown hxl;cases A
 all_goals
  go_enter func155,ntmps155
  go_wp2_with (at_builtin;refine Lib.wpList_append_run _ rfl _ _ _ _ rfl _ _ rfl rfl _ _ hrun ?_)
  all_goals
   go_ret
   exact ⟨v',rfl,by first|exact H2.out|(have a:=H2.out;simpa [List.append_assoc] using a),h4,h3,h5⟩
theorem qE (w:World) (B:Nat) (n i:Nat) (xs e:List Value) (vb:Nat) (g cap:Nat) (cur:Array Value) (hown:w.ownsRow B 3 1 (Value.slice (some ⟨g,0,none⟩) n cap) n xs) (hi:i<n) (hn:n≤900000000) (hv:Blk w vb 3 e) (hvb:(Value.slice (some ⟨g,0,none⟩) n cap).ownBlock≠some vb) (h1x:∀u∈xs,u.oneCell'=true) (h1e:∀u∈e,u.oneCell'=true) (he:e.length=1) (hB:B≤w.heap.size) (hBg:B≤g) (hg:w.heap[g]? =some (.cells cur 3 (0,0))) (hnc:n≤cap) (hcm:cap≤maxLen) (hsz:cur.size=cap) (htk:cur.toList.take (n)=xs) (hroom:n<cap) :
 Calls prog 155 #[Value.slice (some ⟨g,0,none⟩) n cap,i,.slice (some ⟨vb,0,none⟩) 1 1] w fun r w'=>∃v',r=.returned v'∧w'.ownsRow B 3 1 v' (n+1) (xs.take (i) ++ e ++ xs.drop (i))∧Below B w w'∧w.grownBy w' (Value.slice (some ⟨g,0,none⟩) n cap).ownBlock∧(v'.ownBlock=(Value.slice (some ⟨g,0,none⟩) n cap).ownBlock∨v'.ownBlock=some w.heap.size):=by
 have hbox:=hv.box;have hxl:xs.length=n:=by have h9:=hown.1;omega
 have hgl:g<w.heap.size:=(Array.getElem?_eq_some_iff.1 hg).1;have hvl:vb<w.heap.size:=hv.lt;have hgv:g≠vb:=fun h=>hvb y78;have hcm':cap≤9223372036854775807:=by simpa [maxLen] using hcm
 have hszi:(prog.info? 3).map (·.size)=some 1:=by
  obtain ⟨i0,hi0,h0,h1,h2⟩:=info_parts nX;rw [hi0];simp [h1]
 have hcell:∀j u,xs[j]? =some u→w.cell? ⟨g,j,none⟩=some u:=fun j u hj=>by
  have:=World.ownsRow.cells hown (g:=g) rfl j u hj;simpa [Addr.add_lit] using this
 have hw1:IntKind.i64.wrap ((i:Int)+1)=(i:Int)+1:=by rw [IntKind.wrap_i64];omega
 have hb1:(0:Int)≤(i:Int)+1:=by omega
 have htn:((i:Int)+1).toNat=i+1:=by omega
 have hb3:(i:Int)≤(n:Int):=by omega
 have hb4:(i:Int)≤(n:Int)+1:=by omega
 have hin:i≤n:=by omega
 have hbs:∃tA kA,w.shape? vb=some (tA,kA)∧w.frozen? ⟨vb,kA,none⟩=false:=⟨3,e.length,by unfold Blk at hv;simp [World.shape?,hv],hv.frozen _⟩;obtain ⟨tA,kA,hsa,hfe⟩:=hbs;have hsb:w.shape? g=some (3,cur.size):=by simp [World.shape?,hg]
 have hks:cur.size≠0:=by rw [hsz];omega
 have hov:∀lb cb,(callFunc 165 #[.slice (some ⟨vb,0,none⟩) 1 1,.slice (some ⟨g,(i+1),none⟩) lb cb]).run prog w=.ok (.value (.bool false)) w:=fun lb cb=>by
  rw [run_callFunc_extern (P:=prog) (fn:=Tryz.f165) y8 y8 y8 y8 (e:=Extern.SlicesOverlaps.overlaps #[25,25] #[4]) y8,
   Lib.run_overlaps_apart w 25 4 3 underlying25 1 (by intro w;exact Tryz.sizeOf3 w) ⟨vb,0,none⟩ ⟨g,(i+1),none⟩ 1 1 lb cb (fun h=>hgv h.symm) tA 3 kA cur.size hsa hsb hks (hv.frozen _) hfe]
  rfl
 have hmin1:Nat.min (n+1-i) (n-i)=n-i:=by simp only [Nat.min_def];split<;>omega
 have hmin2:Nat.min 1 (n+1-i)=1:=by simp only [Nat.min_def];split<;>omega
 have hdl:(xs.drop (i)).length=(n-i):=by rw [List.length_drop,hxl]
 refine nm (cur.toList.take ((i+1)) ++ xs.drop (i) ++ cur.toList.drop ((i+1)+(xs.drop (i)).length)) fun r1 hr1=>?_;refine nm (r1.take (i) ++ e ++ r1.drop (i+e.length)) fun r2 hr2=>?_;have hcs:cur.toList.length=cap:=by simpa using hsz
 have hins:=AR (a:=i) (N:=n) (k:=1) (R:=cur.toList) hxl he y2 htk y2;rw [←hr1,← hr2] at hins
 have hr1l:r1.length=cap:=by
  rw [hr1];simp only [List.length_append,List.length_take,List.length_drop,hcs,hxl];omega
 have hcp1:∀(W:World),W.heap=w.heap→∀ty dc sc,(Builtin.copy_ #[25,25] ty #[.slice (some ⟨g,(i+1),none⟩) (n-i) dc,.slice (some ⟨g,i,none⟩) (n+1-i) sc]).run prog W=.ok (goInt (n-i:Nat)) (W.setRow g r1.toArray):=fun W hW ty dc sc=>by
  have h:=fB W 25 25 ty 3 g ((i+1)) (n-i) dc ⟨g,i,none⟩ (n+1-i) sc 1 cur 3 (xs.drop (i)) underlying25 hszi (by rw [hW];exact hg) (by rw [hmin1,hdl,Nat.mul_one])
   (fun j u hj=>by
    rw [Addr.add_lit];rw [List.getElem?_drop] at hj;exact (World.cell?_of_block (w:=w) (w':=W) (a:=⟨g,i+j,none⟩) (by rw [hW])).trans (hcell _ u hj)) (by rw [hdl,hsz];omega) (fun u hu=>h1x u (List.mem_of_mem_drop hu))
  rw [hmin1,← hr1] at h;exact h
 have hcp2:∀(W:World),W.heap=(w.setRow g r1.toArray).heap→∀ty dc,(Builtin.copy_ #[25,25] ty #[.slice (some ⟨g,i,none⟩) (n+1-i) dc,.slice (some ⟨vb,0,none⟩) 1 1]).run prog W=.ok (goInt (1:Nat)) (W.setRow g r2.toArray):=fun W hW ty dc=>by
  have h:=fB W 25 25 ty 3 g (i) (n+1-i) dc ⟨vb,0,none⟩ 1 1 1 r1.toArray 3 e underlying25 hszi (by rw [hW];exact setRow_heap w g cur _ _ _ hg) y93
   (fun j u hj=>by
    rw [Addr.add_lit,Nat.zero_add];exact (World.cell?_of_block (w:=w) (w':=W) (a:=⟨vb,j,none⟩) y94).trans (hbox.2 j u hj)) (by simp only [List.size_toArray];omega) h1e
  rw [hmin2] at h;simp only [List.toList_toArray] at h;rw [←hr2] at h;exact h
 have hfin:∀W:World,W.heap=((w.setRow g r1.toArray).setRow g r2.toArray).heap→W.os=w.os→W.tape=w.tape→W.output=w.output→W.ownsRow B 3 1 (.slice (some ⟨g,0,none⟩) (n+1) cap) (n+1) (xs.take (i) ++ (e ++ xs.drop (i)))∧Below B w W∧w.grownBy W (Value.slice (some ⟨g,0,none⟩) n cap).ownBlock:=fun W hW h1 h2 h3=>by
  have hsz2:W.heap.size=w.heap.size:=by rw [hW];simp
  have hblk:∀k,k≠g→W.heap[k]? =w.heap[k]?:=fun k hk=>by rw [hW,setRow_other _ _ _ _ hk,setRow_other _ _ _ _ hk]
  refine ⟨⟨by simp only [List.length_append,List.length_take,List.length_drop,he,hxl];omega,.inr ⟨g,cap,r2.toArray,rfl,hBg,?_,by omega,hcm,?_,?_⟩⟩,⟨h1,h2,h3,by omega,fun k hk=>hblk k y2⟩,⟨h1,h2,h3,by omega,fun k hk hne=>hblk k (fun h=>hne y78)⟩⟩
  · rw [hW];exact setRow_heap _ g r1.toArray _ _ _ (setRow_heap w g cur _ _ _ hg)
  · have:=hins.2;rw [List.size_toArray,this,Nat.mul_one];exact hcs
  · have:=hins.1;rw [←List.append_assoc,Nat.mul_one];exact this
 have HF:=ħ hfin;have hci:¬(cap=i+1):=by omega
 have hci2:¬(cap=i):=by omega
 clear hfin hins hr1 hr2 hdl hmin1 hmin2 hown hxl htk hsz hcs h1x h1e he hv hbox hcell hsa hfe hsb hks;go_enter func155,ntmps155
 go_wp2_with (simp only [hov])
 go_region_law (refine fO rfl _ _ 25 25 rfl (.slice (some ⟨g,(i+1),none⟩) (n-i) (cap-(i+1))) (.slice (some ⟨g,i,none⟩) (n+1-i) (cap-i)) y9 y9 (hcp1 _ (by rfl) 3 (cap-(i+1)) (cap-i)) ?_)
 have hcp3:=hcp2 (w.drew.setRow g r1.toArray) rfl 3 (cap-i);go_wp2_with fail
 go_ret
 obtain ⟨a1,a2,a3⟩:=HF.out ((w.drew.setRow g r1.toArray).setRow g r2.toArray) rfl rfl rfl rfl;exact ⟨_,rfl,by first|exact a1|(simpa [List.append_assoc] using a1),a2,a3,.inl rfl⟩
theorem qD (w:World) (B:Nat) (n i:Nat) (xs e:List Value) (vb:Nat) (g cap:Nat) (cur:Array Value) (hown:w.ownsRow B 3 1 (Value.slice (some ⟨g,0,none⟩) n cap) n xs) (hi:i<n) (hn:n≤900000000) (hv:Blk w vb 3 e) (hvb:(Value.slice (some ⟨g,0,none⟩) n cap).ownBlock≠some vb) (h1x:∀u∈xs,u.oneCell'=true) (h1e:∀u∈e,u.oneCell'=true) (he:e.length=1) (hB:B≤w.heap.size) (hBg:B≤g) (hg:w.heap[g]? =some (.cells cur 3 (0,0))) (hnc:n≤cap) (hcm:cap≤maxLen) (hsz:cur.size=cap) (htk:cur.toList.take (n)=xs) (hroom:cap≤n) :
 Calls prog 155 #[Value.slice (some ⟨g,0,none⟩) n cap,i,.slice (some ⟨vb,0,none⟩) 1 1] w fun r w'=>∃v',r=.returned v'∧w'.ownsRow B 3 1 v' (n+1) (xs.take (i) ++ e ++ xs.drop (i))∧Below B w w'∧w.grownBy w' (Value.slice (some ⟨g,0,none⟩) n cap).ownBlock∧(v'.ownBlock=(Value.slice (some ⟨g,0,none⟩) n cap).ownBlock∨v'.ownBlock=some w.heap.size):=by
 have hbox:=hv.box;have hxl:xs.length=n:=by have h9:=hown.1;omega
 have hgl:g<w.heap.size:=(Array.getElem?_eq_some_iff.1 hg).1;have hvl:vb<w.heap.size:=hv.lt;have hgv:g≠vb:=fun h=>hvb y78;have hcm':cap≤9223372036854775807:=by simpa [maxLen] using hcm
 have hszi:(prog.info? 3).map (·.size)=some 1:=by
  obtain ⟨i0,hi0,h0,h1,h2⟩:=info_parts nX;rw [hi0];simp [h1]
 have hcell:∀j u,xs[j]? =some u→w.cell? ⟨g,j,none⟩=some u:=fun j u hj=>by
  have:=World.ownsRow.cells hown (g:=g) rfl j u hj;simpa [Addr.add_lit] using this
 have hw1:IntKind.i64.wrap ((i:Int)+1)=(i:Int)+1:=by rw [IntKind.wrap_i64];omega
 have hb1:(0:Int)≤(i:Int)+1:=by omega
 have htn:((i:Int)+1).toNat=i+1:=by omega
 have hb3:(i:Int)≤(n:Int):=by omega
 have hb4:(i:Int)≤(n:Int)+1:=by omega
 have hin:i≤n:=by omega
 obtain ⟨i0,hi0,hz0,hzs,hzb⟩:=info_parts nX;have hcn:cap=n:=by omega
 have hold:(Builtin.firstCells i0.size i (.slice (some ⟨g,0,none⟩) i cap)).run prog w.drew=.ok (xs.take (i)).toArray w.drew:=by
  rw [hzs]
  exact run_firstCells_some w.drew 1 i ⟨g,0,none⟩ i cap (xs.take (i)) y34 (fun j u hj=>by
   rw [Addr.add_lit,Nat.zero_add];rw [List.getElem?_take] at hj;split at hj
   · exact hcell j u hj
   · cases hj)
 refine nm (grownCap w (n+1) cap 3) fun G hG=>?_;obtain ⟨ROW,hROW⟩:∃ROW:Array Value,ROW=(xs.take (i)).toArray ++ Builtin.zeroCells (.int .i64 0:Value).cells (n+1-i) ++ Builtin.zeroCells (.int .i64 0:Value).cells (G-(n+1)):=⟨_,rfl⟩
 have hrz:(Builtin.append_ #[25,3] 25 #[.slice (some ⟨g,0,none⟩) i cap,.int .i64 ((n:Int)+1-(i:Int))]).run prog w=
  .ok (.slice (some ⟨w,0,none⟩) (n+1) G) (w.drew.alloc (.cells ROW 3)):=by
  have h:=Lib.run_append_grow_zeros w 25 3 25 3 i0 _ .i64 .i64 underlying25 underlying3 hi0 hz0 (some ⟨g,0,none⟩) i cap (xs.take (i)) hold (n+1-i) y2 y2 y2 y2 (by rw [hzb];omega) Jq;rw [show i+(n+1-i)=n+1 by omega,← hG,← hROW] at h;rw [show (n:Int)+1-(i:Int)=((n+1-i:Nat):Int) by omega];exact h
 have hGn:n+1≤G:=by rw [hG];exact grownCap_ge w _ _ _
 have hG63:G≤9223372036854775807:=by
  have:=grownCap_le_maxLen w (n+1) cap 3 (by unfold maxLen;omega);rw [←hG] at this;simpa [maxLen] using this
 have hRl:ROW.size=G:=by
  rw [hROW];simp [Builtin.zeroCells,Value.cells,hxl];omega
 have hRt:ROW.toList.take (i)=xs.take (i):=by
  rw [hROW];simp only [Array.toList_append,List.append_assoc];rw [List.take_left' (by simp [hxl];omega)]
 refine nm (w.alloc (.cells ROW 3)) fun W1 hW1=>?_;have hW1h:W1.heap[w.heap.size]? =some (.cells ROW 3 (0,0)):=by rw [hW1];exact heap_alloc_new w _
 have hW1o:∀k,k<w.heap.size→W1.heap[k]? =w.heap[k]?:=fun k hk=>by rw [hW1];exact ((Below.refl w.heap.size w).alloc (Nat.le_refl _) _).block k hk
 have hW1s:W1.heap.size=w.heap.size+1:=by rw [hW1];simp
 have hmin1:Nat.min (n-i) (n-i)=n-i:=by simp only [Nat.min_def];split<;>omega
 have hmin2:Nat.min 1 (n+1-i)=1:=by simp only [Nat.min_def];split<;>omega
 have hdl:(xs.drop (i)).length=(n-i):=by rw [List.length_drop,hxl]
 refine nm (ROW.toList.take (i) ++ e ++ ROW.toList.drop (i+e.length)) fun r1 hr1=>?_;refine nm (r1.take ((i+1)) ++ xs.drop (i) ++ r1.drop ((i+1)+(xs.drop (i)).length)) fun r2 hr2=>?_;have hcs:ROW.toList.length=G:=by simpa using hRl
 have hins:=Ch (a:=i) (N:=n) (k:=1) (R:=ROW.toList) hxl he y2 hRt y2;rw [←hr1,← hr2] at hins
 have hr1l:r1.length=G:=by
  rw [hr1];simp only [List.length_append,List.length_take,List.length_drop,hcs,he];omega
 have hcpA:∀(W:World),W.heap=W1.heap→∀ty dc,(Builtin.copy_ #[25,25] ty #[.slice (some ⟨w,i,none⟩) (n+1-i) dc,.slice (some ⟨vb,0,none⟩) 1 1]).run prog W=.ok (goInt (1:Nat)) (W.setRow w.heap.size r1.toArray):=fun W hW ty dc=>by
  have h:=fB W 25 25 ty 3 w.heap.size (i) (n+1-i) dc ⟨vb,0,none⟩ 1 1 1 ROW 3 e underlying25 hszi (by rw [hW];exact hW1h) y93
   (fun j u hj=>by
    rw [Addr.add_lit,Nat.zero_add];exact (World.cell?_of_block (w:=w) (w':=W) (a:=⟨vb,j,none⟩) (by rw [hW];exact hW1o vb hvl)).trans (hbox.2 j u hj)) (by rw [hRl,he];omega) h1e
  rw [hmin2,← hr1] at h;exact h
 have hcpB:∀(W:World),W.heap=(W1.setRow w.heap.size r1.toArray).heap→∀ty dc sc,(Builtin.copy_ #[25,25] ty #[.slice (some ⟨w,(i+1),none⟩) (n-i) dc,.slice (some ⟨g,i,none⟩) (n-i) sc]).run prog W=.ok (goInt (n-i:Nat)) (W.setRow w.heap.size r2.toArray):=fun W hW ty dc sc=>by
  have h:=fB W 25 25 ty 3 w.heap.size ((i+1)) (n-i) dc ⟨g,i,none⟩ (n-i) sc 1 r1.toArray 3 (xs.drop (i)) underlying25 hszi (by rw [hW];exact setRow_heap W1 _ ROW _ _ _ hW1h) (by rw [hmin1,hdl,Nat.mul_one])
   (fun j u hj=>by
    rw [Addr.add_lit];rw [List.getElem?_drop] at hj;exact (World.cell?_of_block (w:=w) (w':=W) (a:=⟨g,i+j,none⟩) y81).trans (hcell _ u hj)) (by simp only [List.size_toArray];rw [hdl];omega) (fun u hu=>h1x u (List.mem_of_mem_drop hu))
  rw [hmin1] at h;simp only [List.toList_toArray] at h;rw [←hr2] at h;exact h
 have hfin:∀W:World,W.heap=((W1.setRow w.heap.size r1.toArray).setRow w.heap.size r2.toArray).heap→W.os=w.os→W.tape=w.tape→W.output=w.output→W.ownsRow B 3 1 (.slice (some ⟨w,0,none⟩) (n+1) G) (n+1) (xs.take (i) ++ (e ++ xs.drop (i)))∧Below B w W∧w.grownBy W (Value.slice (some ⟨g,0,none⟩) n cap).ownBlock:=fun W hW h1 h2 h3=>by
  have hsz2:W.heap.size=w.heap.size+1:=by rw [hW];simp [hW1s]
  have hblk:∀k,k<w.heap.size→W.heap[k]? =w.heap[k]?:=fun k hk=>by rw [hW,setRow_other _ _ _ _ y2,setRow_other _ _ _ _ y2];exact hW1o k hk
  refine ⟨⟨by simp only [List.length_append,List.length_take,List.length_drop,he,hxl];omega,.inr ⟨w,G,r2.toArray,rfl,hB,?_,by omega,by simpa [maxLen] using hG63,?_,?_⟩⟩,⟨h1,h2,h3,by omega,fun k hk=>hblk k y2⟩,⟨h1,h2,h3,by omega,fun k hk hne=>hblk k hk⟩⟩
  · rw [hW];exact setRow_heap _ _ r1.toArray _ _ _ (setRow_heap W1 _ ROW _ _ _ hW1h)
  · have:=hins.2;rw [List.size_toArray,this,Nat.mul_one];exact hcs
  · have:=hins.1;rw [←List.append_assoc,Nat.mul_one];exact this
 have HF:=ħ hfin;have hGi:¬(G=i):=by omega
 have hGim:¬(G=i+1):=by omega
 have hci:¬(cap=i):=by omega
 have hcap1:(cap:Int)<(n:Int)+1:=by omega
 clear hfin hins hr1 hr2 hdl hmin1 hmin2 hown hxl htk hsz hcs h1x h1e he hv hbox hcell hold hROW hG hRl hRt hW1h hW1o hW1s hr1l;subst hW1;go_enter func155,ntmps155
 have HRZ:=ħ hrz;have HCA:=ħ hcpA;have HCB:=ħ hcpB;have hcpA1:=hcpA (w.alloc (.cells ROW 3)).drew rfl 3 (G-i);clear hrz hcpA hcpB hcn hi0 hz0 hzs hzb hszi;go_wp2_with (at_builtin;refine Lib.wpList_append_run _ rfl _ _ _ _ rfl _ _ rfl rfl _ _ HRZ.out ?_)
 go_region_law (refine fO rfl _ _ 25 25 rfl (.slice (some ⟨w,(i+1),none⟩) (n-i) (G-(i+1))) (.slice (some ⟨g,i,none⟩) (n-i) (cap-i)) y9 y9 (HCB.out _ (by rfl) 3 (G-(i+1)) (cap-i)) ?_)
 go_wp2_with fail
 go_ret
 obtain ⟨a1,a2,a3⟩:=HF.out (((w.alloc (.cells ROW 3)).drew.setRow w.heap.size r1.toArray).drew.setRow w.heap.size r2.toArray) rfl rfl rfl rfl;exact ⟨_,rfl,by first|exact a1|(simpa [List.append_assoc] using a1),a2,a3,.inr rfl⟩
theorem xT (w:World) (B:Nat) (v:Value) (n i:Nat) (xs e:List Value) (vb:Nat) (hown:w.ownsRow B 3 1 v n xs) (hi:i≤n) (hn:n≤900000000) (hv:Blk w vb 3 e) (hvb:v.ownBlock≠some vb) (h1x:∀u∈xs,u.oneCell'=true) (h1e:∀u∈e,u.oneCell'=true) (he:e.length=1) (hB:B≤w.heap.size) :
 Calls prog 155 #[v,i,.slice (some ⟨vb,0,none⟩) 1 1] w fun r w'=>∃v',r=.returned v'∧w'.ownsRow B 3 1 v' (n+1) (xs.take (i) ++ e ++ xs.drop (i))∧Below B w w'∧w.grownBy w' v.ownBlock∧(v'.ownBlock=v.ownBlock∨v'.ownBlock=some w.heap.size):=by
 rcases Nat.lt_or_ge i n with hlt|hge
 · rcases hown.2 with ⟨_,h0⟩|⟨g,cap,cur,rfl,hBg,hg,hnc,hcm,hsz,htk⟩
   · omega
   · rcases Nat.lt_or_ge n cap with hroom|hroom
     · exact qE w B n i xs e vb g cap cur hown hlt hn hv hvb h1x h1e he hB hBg hg hnc hcm y2 (by simpa using htk) hroom
     · exact qD w B n i xs e vb g cap cur hown hlt hn hv hvb h1x h1e he hB hBg hg hnc hcm y2 (by simpa using htk) hroom
 · exact rY w B v n i xs e vb hown y2 hn hv hvb h1x h1e he hB
theorem gY (x:Int) (w:World):Calls prog 164 #[x] w fun e w'=>e=.returned (.bool false)∧w=w':=by
 go_enter func164,ntmps164
 go_wp2
 go_ret
 exact ⟨by simp,rfl⟩
theorem lP (x y:Int) (w:World):Calls prog 163 #[x,y] w fun e w'=>e=.returned (.bool (decide (x<y)))∧w=w':=by
 go_enter func163,ntmps163
 go_wp2_with (go_at_call 157;refine (uR _ _).mono ?_;rintro e w' ⟨rfl,rfl⟩)
 all_goals (go_ret;refine ⟨aH ?_,rfl⟩;first|rfl|(simp [*];done))
theorem mH.lt {l:List Int} (h:mH l):∀{a b:Nat},a<b→b<l.length→nth l a<nth l b:=by
 intro a b hab hb
 induction b with
 | zero=>omega
 | succ b ih=>
  rcases Nat.lt_or_ge a b with h1|h1
  · exact Int.lt_trans (ih h1 y2) (h b hb)
  · obtain rfl:a=b:=by omega
    exact h a hb
theorem Jd {l:List Int} {x:Int} {lo:Nat} (h:mH l) (h1:∀t,t<lo→nth l t<x) (h2:∀t,lo≤t→t<l.length→x≤nth l t):cQ l x=decide (lo<l.length∧nth l lo=x):=by
 unfold cQ;refine decide_eq_decide.2 ⟨fun hm=>?_,fun h=>Au.2 ⟨lo,h.1,h.2⟩⟩;obtain ⟨t,ht,e⟩:=Au.1 hm;rcases Nat.lt_or_ge t lo with h3|h3
 · have:=h1 t h3;omega
 · rcases Nat.lt_or_ge lo t with h4|h4
   · have:=h2 lo (Nat.le_refl _) y2;have:=h.lt h4 ht;omega
   · obtain rfl:t=lo:=by omega
     exact ⟨ht,e⟩
def BsF (n:Nat) (l:List Int) (x:Int) (lo hi:Nat):Prop:=(∀t,t<lo→nth l t<x)∧(∀t,hi≤t→t<n→x≤nth l t)
theorem lL (A:Option Addr) (n c:Nat) (l:List Int) (x:Int) (w:World) (hl:aL w A n l) (hr:mH l) (hn:n≤1000000000) :
 Calls prog 154 #[.slice A n c,x] w fun e w'=>∃i:Nat,e=.returned (.tuple #[i,.bool (cQ l x)])∧i≤n∧(∀t,t<i→nth l t<x)∧(∀t,i≤t→t<n→x≤nth l t)∧Below w w w':=by
 have HL:=ħ hl;have HN:=ħ hl.1;have HR:=ħ hr;clear hl hr;go_enter func154,ntmps154
 go_wp2_with fail
 go_loopw [7,8] (fun s7 s8 wr=>∃lo hi:Nat,s7=.int .i64 lo∧s8=.int .i64 hi∧lo≤hi∧hi≤n∧Hid (BsF n l x lo hi)∧Below w w wr) (fun s7 s8 _=>(intOf s8).toNat-(intOf s7).toNat)
 case atStart=>exact ⟨0,n,rfl,rfl,Nat.zero_le _,Nat.le_refl _,⟨fun t ht=>absurd ht (Nat.not_lt_zero _),fun t h1 h2=>by omega⟩,Below.refl _ _⟩
 case round=>
  obtain ⟨lo,hi,rfl,rfl,hlh,hin,I,hbw⟩:=hrel;by_cases hlt:lo<hi
  · obtain ⟨b,off,rfl,hb,hc⟩:=(HL.out.up hbw).2.2 y2;have cm:=hc ((lo+hi) / 2) y2;clear hc;by_cases hyx:nth l ((lo+hi) / 2)<x
    · have hd:decide (nth l ((lo+hi) / 2)<x)=true:=by simpa using hyx
      have HQ:=ħ hyx;clear hyx;go_wp2_with (first|(go_at_call 163;refine (lP _ _ _).mono ?_;rintro e w' ⟨rfl,rfl⟩)|(go_at_call 164;refine (gY _ _).mono ?_;rintro e w' ⟨rfl,rfl⟩))
      (refine rnd ?_;(refine ⟨(lo+hi) / 2+1,hi,by rw [show ((lo:Int)+(hi:Int)) / 2+1=(((lo+hi) / 2+1:Nat):Int) by omega],rfl,by omega,hin,ħ ⟨fun t ht=>?_,I.out.2⟩,hbw⟩;have q:=HQ.out;rcases Nat.lt_or_ge t ((lo+hi) / 2) with h1|h1;(have:=HR.out.lt h1 y30;omega);(obtain rfl:t=(lo+hi) / 2:=by omega);exact q))
    · have hd:decide (nth l ((lo+hi) / 2)<x)=false:=by simpa using hyx
      have HQ:=ħ hyx;clear hyx;go_wp2_with (first|(go_at_call 163;refine (lP _ _ _).mono ?_;rintro e w' ⟨rfl,rfl⟩)|(go_at_call 164;refine (gY _ _).mono ?_;rintro e w' ⟨rfl,rfl⟩))
      (refine rnd ?_;(refine ⟨lo,(lo+hi) / 2,rfl,by rw [show ((lo:Int)+(hi:Int)) / 2=(((lo+hi) / 2:Nat):Int) by omega],by omega,by omega,ħ ⟨I.out.1,fun t ht htn=>?_⟩,hbw⟩;have q:=HQ.out;rcases Nat.lt_or_ge ((lo+hi) / 2) t with h1|h1;(have:=HR.out.lt h1 y30;omega);(obtain rfl:t=(lo+hi) / 2:=by omega);omega))
  · obtain rfl:hi=lo:=by omega
    have he:=Jd HR.out I.out.1 (fun t h1 h2=>I.out.2 t h1 (by rw [HN.out] at h2;exact h2));rw [HN.out] at he;by_cases hln:hi<n
    · obtain ⟨b,off,rfl,hb,hc⟩:=(HL.out.up hbw).2.2 y2;have cm:=hc hi hln;clear hc;by_cases hyx:nth l hi=x
      · have hh:cQ l x=true:=by rw [he];simp [hln,hyx]
        have HH:=ħ hh;have hd:(nth l hi == x)=true:=by simpa using hyx
        clear he hh hyx;go_wp2_with (first|(go_at_call 163;refine (lP _ _ _).mono ?_;rintro e w' ⟨rfl,rfl⟩)|(go_at_call 164;refine (gY _ _).mono ?_;rintro e w' ⟨rfl,rfl⟩))
        go_ret2
        exact ⟨_,by rw [HH.out];rfl,hin,I.out.1,I.out.2,hbw⟩
      · have hh:cQ l x=false:=by rw [he];simp [hyx]
        have HH:=ħ hh;have hd:(nth l hi == x)=false:=by simpa using hyx
        clear he hh hyx;go_wp2_with (first|(go_at_call 163;refine (lP _ _ _).mono ?_;rintro e w' ⟨rfl,rfl⟩)|(go_at_call 164;refine (gY _ _).mono ?_;rintro e w' ⟨rfl,rfl⟩))
        go_ret2
        exact ⟨_,by rw [HH.out];rfl,hin,I.out.1,I.out.2,hbw⟩
    · have hh:cQ l x=false:=by rw [he];simp [hln]
      have HH:=ħ hh;clear he hh;go_wp2_with fail
      go_ret2
      exact ⟨_,by rw [HH.out];rfl,hin,I.out.1,I.out.2,hbw⟩
end Go.Proofs.YtgfakefcmbpboaaGreat
