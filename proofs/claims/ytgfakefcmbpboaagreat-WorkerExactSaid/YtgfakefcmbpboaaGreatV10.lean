/- Part 10 of what WorkerExact leans on. No conditions. -/
import Derived.Test.YtgfakefcmbpboaaGreatV7
namespace Go.Proofs.YtgfakefcmbpboaaGreat
set_option linter.all false
set_option maxRecDepth 100000
set_option maxHeartbeats 64000000
open _root_.Go.Proofs.Tryz Go.RowKit
open Tok
theorem jD (P:aF) (D:aD) (w:World) (h:bG w P D) (hE:nxE D=0) (hon:D.op.length≤800000000) :
 Calls prog 79 #[P.val D] w fun e w'=>∃v,e=.returned (.tuple #[.agg #[D.id,D.next,v],z0])∧bD w' w.heap.size v (D.op.take 8)∧Below w w w':=by
 obtain ⟨⟨oA,on,oc⟩,⟨tA,tn,tc⟩,⟨eA,en,ec⟩,⟨rA,rn,rc⟩⟩:=P;have HO:Hid (bZ w oA on D.op):=ħ h.op;have HON:Hid (D.op.length=on):=ħ h.op.1;have HEN:Hid (D.he.length=en):=ħ h.he.1;have hoc:on≤oc:=h.oc;have hom:oc≤9223372036854775807:=h.om;have hen:en≤9223372036854775807:=h.he.2.1;refine mn D.next fun next hnx=>?_;refine mn D.age fun age hag=>?_;obtain ⟨z1,z2,z3⟩:=sL hE;rw [HON.out] at z1 hon;rw [HEN.out] at z3;rw [hnx] at z2;rw [hag] at z1;show Calls prog 79 #[.agg (cV D oA on oc tA tn tc eA en ec rA rn rc)] w _;rw [hnx,hag];refine nm (min on 8) fun m hm=>?_;have hmon:m≤on:=by omega
 have hmoc:(m:Int)≤(oc:Int):=by omega
 have hm0:(0:Int)≤(m:Int):=by omega
 have HTK:Hid (bZ w oA m (D.op.take 8)):=ħ (by
  have:=h.op.take hmon;rw [hm,show D.op.take (min on 8)=D.op.take 8 by rw [←HON.out];exact List.take_eq_take_iff.2 y2] at this;rw [hm];exact this)
 have c4d:decide (1099511627776≤next)=false:=by simp;omega
 have c5d:((en:Int) == 1024)=false:=by simp;omega
 have c5e:decide ((1024:Int)≤(en:Int))=false:=by simp;omega
 have hm8:m≤8:=by omega
 have hmo:m≤oc:=by omega
 have hoci:(on:Int)≤(oc:Int):=by omega
 clear h hE hnx hag;rcases Nat.lt_trichotomy on 8 with c1|c1|c1
 · have hmm:m=on:=by omega
   subst hmm;have c1d:decide ((m:Int)<8)=true:=by simp;omega
   have c2d:((m:Int) == 0)=false:=by simp;omega
   have c2e:decide ((0:Int)<(m:Int))=true:=by simp;omega
   have c2f:decide (0<m)=true:=by simp;omega
   have c2g:0<m:=by omega
   have c3d:decide (age<4)=false:=by simp;omega
   have c3e:decide (4≤age)=true:=by simp;omega
   have hmin:min (m:Int) 8=(m:Int):=by omega
   have hm8d:decide (8<(m:Int))=false:=by simp;omega
   have hm8n:¬8<(m:Int):=by omega
   have hm8i:(m:Int)≤8:=by omega
   have hmwr:IntKind.i64.wrap (m:Int)=m:=IntWalk.i64_in _ y2;have hm8m':min 8 (m:Int)=m:=by omega
   clear z1 hm;go_enter func79,ntmps79
   go_upto_region 6 with fail
   have hX1:Blk ((w.alloc (.cells #[D.id,D.nodes,next,.slice oA m oc,age,D.clock,.slice tA tn tc,.slice eA en ec,.slice rA rn rc] 27)).alloc (.cells #[z0,z0,n0] 43)) w.heap.size 27 [D.id,D.nodes,next,.slice oA m oc,age,D.clock,.slice tA tn tc,.slice eA en ec,.slice rA rn rc]:=(Blk.new w 27 [D.id,D.nodes,next,.slice oA m oc,age,D.clock,.slice tA tn tc,.slice eA en ec,.slice rA rn rc]).up (aJ)
   have hX2:Blk ((w.alloc (.cells #[D.id,D.nodes,next,.slice oA m oc,age,D.clock,.slice tA tn tc,.slice eA en ec,.slice rA rn rc] 27)).alloc (.cells #[z0,z0,n0] 43)) (w.heap.size+1) 43 [z0,z0,n0]:=by
    have:=Blk.new (w.alloc (.cells #[D.id,D.nodes,next,.slice oA m oc,age,D.clock,.slice tA tn tc,.slice eA en ec,.slice rA rn rc] 27)) 43 [z0,z0,n0];simpa using this
   have hbX:Below w w ((w.alloc (.cells #[D.id,D.nodes,next,.slice oA m oc,age,D.clock,.slice tA tn tc,.slice eA en ec,.slice rA rn rc] 27)).alloc (.cells #[z0,z0,n0] 43)):=aJ;have hzX:w.heap.size+2≤((w.alloc (.cells #[D.id,D.nodes,next,.slice oA m oc,age,D.clock,.slice tA tn tc,.slice eA en ec,.slice rA rn rc] 27)).alloc (.cells #[z0,z0,n0] 43)).heap.size:=by simp
   generalize ((w.alloc (.cells #[D.id,D.nodes,next,.slice oA m oc,age,D.clock,.slice tA tn tc,.slice eA en ec,.slice rA rn rc] 27)).alloc (.cells #[z0,z0,n0] 43))=X at *;have HX1:=ħ hX1;have HX2:=ħ hX2;have hl1:=hX1.lt;have HCL:Hid (∀Y,Below (w.heap.size+1) X Y→Y.cell? ⟨w,0,none⟩=some (.int .i64 D.id)∧Y.cell? ⟨w,2,none⟩=some (.int .i64 next)∧Y.cell? ⟨w,3,none⟩=some (.slice oA m oc)):=ħ (fun Y hY=>⟨(HX1.out.below hY y2).box.2 0 _ rfl,(HX1.out.below hY y2).box.2 2 _ rfl,(HX1.out.below hY y2).box.2 3 _ rfl⟩);clear hX1 hX2;have hl2:=HX2.out.lt;have hf2:=HX2.out.frozen;obtain ⟨g_0,g_1,g_2,g_3,g_4,g_5,g_6,g_7,g_8⟩:=bx9 HX1.out.box
   go_region_held3 (fun Y=>Y.cell? ⟨w,0,none⟩=some (.int .i64 D.id)∧Y.cell? ⟨w,2,none⟩=some (.int .i64 next)∧Y.cell? ⟨w,3,none⟩=some (.slice oA m oc))
    ((refine HCL.out _ ?_;(repeat (first|(with_reducible exact Below.refl _ _)|(exact ((((HZ7.out.setCell (Nat.le_refl _) _)).setCell (Nat.le_refl _) _).setCell (Nat.le_refl _) _))|((with_reducible refine Below.setCell ?_ ?_ _);rotate_left;(first|(simp;done)|(simp;omega)|omega))|(with_reducible refine Below.drew ?_)|((refine Below.trans ?_ (hb7.mono ?_));rotate_left;(first|(simp;omega)|omega))));done))
    ((go_at_call 113;refine ((fL) oA m oc (D.op.take 8) _ (HTK.out.up (aI)) y2).mono ?_;rintro e9 w7 ⟨v7,rfl,ho7,hb7⟩;obtain ⟨A7,c7,e7,_⟩:=bD.txs ho7 y13;obtain ⟨n7,hn7⟩:∃x,(D.op.take 8).length=x:=⟨_,rfl⟩;rw [hn7] at e7;clear hn7;subst e7;have hb7X:Below X X w7:=aA (aM (Below.refl _ _)) hb7;have hK7:=HX2.out.up hb7X;have HZ7:Hid (Below (w.heap.size+1) X w7):=ħ (hb7X.mono y2);have hz7:=hb7.size;(try simp at hz7);have hc7:=fun o=>(aK hb7).1 w.heap.size o y4;have hf7:=hK7.frozen;have hl7:=hK7.lt;obtain ⟨z_0,z_1,z_2⟩:=bx3 hK7.box;have HK7:=ħ hK7;have HO7:=ħ ho7;clear ho7 hK7))
   all_goals
    have hq7:bD w7 (w.heap.size+2) (.slice A7 n7 c7) (D.op.take 8):=HO7.out.mono y26;have HQ7:=ħ hq7;have hR:=((HK7.out.set_ 0 (.int .i64 D.id)).set_ 1 (.int .i64 next)).set_ 2 (.slice A7 n7 c7);obtain ⟨r_0,r_1,r_2⟩:=bx3 hR.box;clear hq7 hR;go_wp2_with fail
    exact bodyPost_ret (v:=.tuple #[.agg #[D.id,next,.slice A7 n7 c7],z0]) y98 rfl ⟨_,rfl,(((HQ7.out.set3 y2 _).set3 y2 _).set3 y2 _).mono y2,aI⟩
 · subst c1;have hmm:m=8:=by omega
   subst hmm;have ho8:(8:Int)≤(oc:Int):=by omega
   have ho8n:8≤oc:=by omega
   clear z1 hm;go_enter func79,ntmps79
   go_upto_region 6 with fail
   have hX1:Blk ((w.alloc (.cells #[D.id,D.nodes,next,.slice oA 8 oc,age,D.clock,.slice tA tn tc,.slice eA en ec,.slice rA rn rc] 27)).alloc (.cells #[z0,z0,n0] 43)) w.heap.size 27 [D.id,D.nodes,next,.slice oA 8 oc,age,D.clock,.slice tA tn tc,.slice eA en ec,.slice rA rn rc]:=(Blk.new w 27 [D.id,D.nodes,next,.slice oA 8 oc,age,D.clock,.slice tA tn tc,.slice eA en ec,.slice rA rn rc]).up (aJ)
   have hX2:Blk ((w.alloc (.cells #[D.id,D.nodes,next,.slice oA 8 oc,age,D.clock,.slice tA tn tc,.slice eA en ec,.slice rA rn rc] 27)).alloc (.cells #[z0,z0,n0] 43)) (w.heap.size+1) 43 [z0,z0,n0]:=by
    have:=Blk.new (w.alloc (.cells #[D.id,D.nodes,next,.slice oA 8 oc,age,D.clock,.slice tA tn tc,.slice eA en ec,.slice rA rn rc] 27)) 43 [z0,z0,n0];simpa using this
   have hbX:Below w w ((w.alloc (.cells #[D.id,D.nodes,next,.slice oA 8 oc,age,D.clock,.slice tA tn tc,.slice eA en ec,.slice rA rn rc] 27)).alloc (.cells #[z0,z0,n0] 43)):=aJ;have hzX:w.heap.size+2≤((w.alloc (.cells #[D.id,D.nodes,next,.slice oA 8 oc,age,D.clock,.slice tA tn tc,.slice eA en ec,.slice rA rn rc] 27)).alloc (.cells #[z0,z0,n0] 43)).heap.size:=by simp
   generalize ((w.alloc (.cells #[D.id,D.nodes,next,.slice oA 8 oc,age,D.clock,.slice tA tn tc,.slice eA en ec,.slice rA rn rc] 27)).alloc (.cells #[z0,z0,n0] 43))=X at *;have HX1:=ħ hX1;have HX2:=ħ hX2;have hl1:=hX1.lt;have HCL:Hid (∀Y,Below (w.heap.size+1) X Y→Y.cell? ⟨w,0,none⟩=some (.int .i64 D.id)∧Y.cell? ⟨w,2,none⟩=some (.int .i64 next)∧Y.cell? ⟨w,3,none⟩=some (.slice oA 8 oc)):=ħ (fun Y hY=>⟨(HX1.out.below hY y2).box.2 0 _ rfl,(HX1.out.below hY y2).box.2 2 _ rfl,(HX1.out.below hY y2).box.2 3 _ rfl⟩);clear hX1 hX2;have hl2:=HX2.out.lt;have hf2:=HX2.out.frozen;obtain ⟨g_0,g_1,g_2,g_3,g_4,g_5,g_6,g_7,g_8⟩:=bx9 HX1.out.box
   go_region_held3 (fun Y=>Y.cell? ⟨w,0,none⟩=some (.int .i64 D.id)∧Y.cell? ⟨w,2,none⟩=some (.int .i64 next)∧Y.cell? ⟨w,3,none⟩=some (.slice oA 8 oc))
    ((refine HCL.out _ ?_;(repeat (first|(with_reducible exact Below.refl _ _)|(exact ((((HZ7.out.setCell (Nat.le_refl _) _)).setCell (Nat.le_refl _) _).setCell (Nat.le_refl _) _))|((with_reducible refine Below.setCell ?_ ?_ _);rotate_left;(first|(simp;done)|(simp;omega)|omega))|(with_reducible refine Below.drew ?_)|((refine Below.trans ?_ (hb7.mono ?_));rotate_left;(first|(simp;omega)|omega))));done))
    ((go_at_call 113;refine ((fL) oA 8 oc (D.op.take 8) _ (HTK.out.up (aI)) y2).mono ?_;rintro e9 w7 ⟨v7,rfl,ho7,hb7⟩;obtain ⟨A7,c7,e7,_⟩:=bD.txs ho7 y13;obtain ⟨n7,hn7⟩:∃x,(D.op.take 8).length=x:=⟨_,rfl⟩;rw [hn7] at e7;clear hn7;subst e7;have hb7X:Below X X w7:=aA (aM (Below.refl _ _)) hb7;have hK7:=HX2.out.up hb7X;have HZ7:Hid (Below (w.heap.size+1) X w7):=ħ (hb7X.mono y2);have hz7:=hb7.size;(try simp at hz7);have hc7:=fun o=>(aK hb7).1 w.heap.size o y4;have hf7:=hK7.frozen;have hl7:=hK7.lt;obtain ⟨z_0,z_1,z_2⟩:=bx3 hK7.box;have HK7:=ħ hK7;have HO7:=ħ ho7;clear ho7 hK7))
   all_goals
    have hq7:bD w7 (w.heap.size+2) (.slice A7 n7 c7) (D.op.take 8):=HO7.out.mono y26;have HQ7:=ħ hq7;have hR:=((HK7.out.set_ 0 (.int .i64 D.id)).set_ 1 (.int .i64 next)).set_ 2 (.slice A7 n7 c7);obtain ⟨r_0,r_1,r_2⟩:=bx3 hR.box;clear hq7 hR;go_wp2_with fail
    exact bodyPost_ret (v:=.tuple #[.agg #[D.id,next,.slice A7 n7 c7],z0]) y98 rfl ⟨_,rfl,(((HQ7.out.set3 y2 _).set3 y2 _).set3 y2 _).mono y2,aI⟩
 · have hmm:m=8:=by omega
   subst hmm;have c1d:decide ((on:Int)<8)=false:=by simp;omega
   have hmin:min (on:Int) 8=8:=by omega
   have hm8d:decide (8<(on:Int))=true:=by simp;omega
   have hm8n:8<(on:Int):=by omega
   have hm8i:¬(on:Int)≤8:=by omega
   have hm8m':min 8 (on:Int)=8:=by omega
   have ho8:(8:Int)≤(oc:Int):=by omega
   clear z1 hm;go_enter func79,ntmps79
   go_upto_region 6 with fail
   have hX1:Blk ((w.alloc (.cells #[D.id,D.nodes,next,.slice oA on oc,age,D.clock,.slice tA tn tc,.slice eA en ec,.slice rA rn rc] 27)).alloc (.cells #[z0,z0,n0] 43)) w.heap.size 27 [D.id,D.nodes,next,.slice oA on oc,age,D.clock,.slice tA tn tc,.slice eA en ec,.slice rA rn rc]:=(Blk.new w 27 [D.id,D.nodes,next,.slice oA on oc,age,D.clock,.slice tA tn tc,.slice eA en ec,.slice rA rn rc]).up (aJ)
   have hX2:Blk ((w.alloc (.cells #[D.id,D.nodes,next,.slice oA on oc,age,D.clock,.slice tA tn tc,.slice eA en ec,.slice rA rn rc] 27)).alloc (.cells #[z0,z0,n0] 43)) (w.heap.size+1) 43 [z0,z0,n0]:=by
    have:=Blk.new (w.alloc (.cells #[D.id,D.nodes,next,.slice oA on oc,age,D.clock,.slice tA tn tc,.slice eA en ec,.slice rA rn rc] 27)) 43 [z0,z0,n0];simpa using this
   have hbX:Below w w ((w.alloc (.cells #[D.id,D.nodes,next,.slice oA on oc,age,D.clock,.slice tA tn tc,.slice eA en ec,.slice rA rn rc] 27)).alloc (.cells #[z0,z0,n0] 43)):=aJ;have hzX:w.heap.size+2≤((w.alloc (.cells #[D.id,D.nodes,next,.slice oA on oc,age,D.clock,.slice tA tn tc,.slice eA en ec,.slice rA rn rc] 27)).alloc (.cells #[z0,z0,n0] 43)).heap.size:=by simp
   generalize ((w.alloc (.cells #[D.id,D.nodes,next,.slice oA on oc,age,D.clock,.slice tA tn tc,.slice eA en ec,.slice rA rn rc] 27)).alloc (.cells #[z0,z0,n0] 43))=X at *;have HX1:=ħ hX1;have HX2:=ħ hX2;have hl1:=hX1.lt;have HCL:Hid (∀Y,Below (w.heap.size+1) X Y→Y.cell? ⟨w,0,none⟩=some (.int .i64 D.id)∧Y.cell? ⟨w,2,none⟩=some (.int .i64 next)∧Y.cell? ⟨w,3,none⟩=some (.slice oA on oc)):=ħ (fun Y hY=>⟨(HX1.out.below hY y2).box.2 0 _ rfl,(HX1.out.below hY y2).box.2 2 _ rfl,(HX1.out.below hY y2).box.2 3 _ rfl⟩);clear hX1 hX2;have hl2:=HX2.out.lt;have hf2:=HX2.out.frozen;obtain ⟨g_0,g_1,g_2,g_3,g_4,g_5,g_6,g_7,g_8⟩:=bx9 HX1.out.box
   go_region_held3 (fun Y=>Y.cell? ⟨w,0,none⟩=some (.int .i64 D.id)∧Y.cell? ⟨w,2,none⟩=some (.int .i64 next)∧Y.cell? ⟨w,3,none⟩=some (.slice oA on oc))
    ((refine HCL.out _ ?_;(repeat (first|(with_reducible exact Below.refl _ _)|(exact ((((HZ7.out.setCell (Nat.le_refl _) _)).setCell (Nat.le_refl _) _).setCell (Nat.le_refl _) _))|((with_reducible refine Below.setCell ?_ ?_ _);rotate_left;(first|(simp;done)|(simp;omega)|omega))|(with_reducible refine Below.drew ?_)|((refine Below.trans ?_ (hb7.mono ?_));rotate_left;(first|(simp;omega)|omega))));done))
    ((go_at_call 113;refine ((fL) oA 8 oc (D.op.take 8) _ (HTK.out.up (aI)) y2).mono ?_;rintro e9 w7 ⟨v7,rfl,ho7,hb7⟩;obtain ⟨A7,c7,e7,_⟩:=bD.txs ho7 y13;obtain ⟨n7,hn7⟩:∃x,(D.op.take 8).length=x:=⟨_,rfl⟩;rw [hn7] at e7;clear hn7;subst e7;have hb7X:Below X X w7:=aA (aM (Below.refl _ _)) hb7;have hK7:=HX2.out.up hb7X;have HZ7:Hid (Below (w.heap.size+1) X w7):=ħ (hb7X.mono y2);have hz7:=hb7.size;(try simp at hz7);have hc7:=fun o=>(aK hb7).1 w.heap.size o y4;have hf7:=hK7.frozen;have hl7:=hK7.lt;obtain ⟨z_0,z_1,z_2⟩:=bx3 hK7.box;have HK7:=ħ hK7;have HO7:=ħ ho7;clear ho7 hK7))
   all_goals
    have hq7:bD w7 (w.heap.size+2) (.slice A7 n7 c7) (D.op.take 8):=HO7.out.mono y26;have HQ7:=ħ hq7;have hR:=((HK7.out.set_ 0 (.int .i64 D.id)).set_ 1 (.int .i64 next)).set_ 2 (.slice A7 n7 c7);obtain ⟨r_0,r_1,r_2⟩:=bx3 hR.box;clear hq7 hR;go_wp2_with fail
    exact bodyPost_ret (v:=.tuple #[.agg #[D.id,next,.slice A7 n7 c7],z0]) y98 rfl ⟨_,rfl,(((HQ7.out.set3 y2 _).set3 y2 _).set3 y2 _).mono y2,aI⟩
theorem jR (P:aF) (D:aD) (w:World) (h:bG w P D) (hE:nxE D=0) (hon:D.op.length≤800000000) :
 Calls prog 41 #[P.val D] w fun e w'=>∃v,e=.returned (.tuple #[.agg #[D.id,D.next,v],z0])∧bD w' w.heap.size v (D.op.take 8)∧Below w w w':=by
 obtain ⟨⟨oA,on,oc⟩,⟨tA,tn,tc⟩,⟨eA,en,ec⟩,⟨rA,rn,rc⟩⟩:=P;have HO:Hid (bZ w oA on D.op):=ħ h.op;have HON:Hid (D.op.length=on):=ħ h.op.1;have HEN:Hid (D.he.length=en):=ħ h.he.1;have hoc:on≤oc:=h.oc;have hom:oc≤9223372036854775807:=h.om;have hen:en≤9223372036854775807:=h.he.2.1;refine mn D.next fun next hnx=>?_;refine mn D.age fun age hag=>?_;obtain ⟨z1,z2,z3⟩:=sL hE;rw [HON.out] at z1 hon;rw [HEN.out] at z3;rw [hnx] at z2;rw [hag] at z1;show Calls prog 41 #[.agg (cV D oA on oc tA tn tc eA en ec rA rn rc)] w _;rw [hnx,hag];refine nm (min on 8) fun m hm=>?_;have hmon:m≤on:=by omega
 have hmoc:(m:Int)≤(oc:Int):=by omega
 have hm0:(0:Int)≤(m:Int):=by omega
 have HTK:Hid (bZ w oA m (D.op.take 8)):=ħ (by
  have:=h.op.take hmon;rw [hm,show D.op.take (min on 8)=D.op.take 8 by rw [←HON.out];exact List.take_eq_take_iff.2 y2] at this;rw [hm];exact this)
 have c4d:decide (1099511627776≤next)=false:=by simp;omega
 have c5d:((en:Int) == 1024)=false:=by simp;omega
 have c5e:decide ((1024:Int)≤(en:Int))=false:=by simp;omega
 have hm8:m≤8:=by omega
 have hmo:m≤oc:=by omega
 have hoci:(on:Int)≤(oc:Int):=by omega
 clear h hE hnx hag;rcases Nat.lt_trichotomy on 8 with c1|c1|c1
 · have hmm:m=on:=by omega
   subst hmm;have c1d:decide ((m:Int)<8)=true:=by simp;omega
   have c2d:((m:Int) == 0)=false:=by simp;omega
   have c2e:decide ((0:Int)<(m:Int))=true:=by simp;omega
   have c2f:decide (0<m)=true:=by simp;omega
   have c2g:0<m:=by omega
   have c3d:decide (age<4)=false:=by simp;omega
   have c3e:decide (4≤age)=true:=by simp;omega
   have hmin:min (m:Int) 8=(m:Int):=by omega
   have hm8d:decide (8<(m:Int))=false:=by simp;omega
   have hm8n:¬8<(m:Int):=by omega
   have hm8i:(m:Int)≤8:=by omega
   have hmwr:IntKind.i64.wrap (m:Int)=m:=IntWalk.i64_in _ y2;have hm8m':min 8 (m:Int)=m:=by omega
   clear z1 hm;go_enter func41,ntmps41
   go_upto_region 6 with fail
   have hX1:Blk ((w.alloc (.cells #[D.id,D.nodes,next,.slice oA m oc,age,D.clock,.slice tA tn tc,.slice eA en ec,.slice rA rn rc] 27)).alloc (.cells #[z0,z0,n0] 43)) w.heap.size 27 [D.id,D.nodes,next,.slice oA m oc,age,D.clock,.slice tA tn tc,.slice eA en ec,.slice rA rn rc]:=(Blk.new w 27 [D.id,D.nodes,next,.slice oA m oc,age,D.clock,.slice tA tn tc,.slice eA en ec,.slice rA rn rc]).up (aJ)
   have hX2:Blk ((w.alloc (.cells #[D.id,D.nodes,next,.slice oA m oc,age,D.clock,.slice tA tn tc,.slice eA en ec,.slice rA rn rc] 27)).alloc (.cells #[z0,z0,n0] 43)) (w.heap.size+1) 43 [z0,z0,n0]:=by
    have:=Blk.new (w.alloc (.cells #[D.id,D.nodes,next,.slice oA m oc,age,D.clock,.slice tA tn tc,.slice eA en ec,.slice rA rn rc] 27)) 43 [z0,z0,n0];simpa using this
   have hbX:Below w w ((w.alloc (.cells #[D.id,D.nodes,next,.slice oA m oc,age,D.clock,.slice tA tn tc,.slice eA en ec,.slice rA rn rc] 27)).alloc (.cells #[z0,z0,n0] 43)):=aJ;have hzX:w.heap.size+2≤((w.alloc (.cells #[D.id,D.nodes,next,.slice oA m oc,age,D.clock,.slice tA tn tc,.slice eA en ec,.slice rA rn rc] 27)).alloc (.cells #[z0,z0,n0] 43)).heap.size:=by simp
   generalize ((w.alloc (.cells #[D.id,D.nodes,next,.slice oA m oc,age,D.clock,.slice tA tn tc,.slice eA en ec,.slice rA rn rc] 27)).alloc (.cells #[z0,z0,n0] 43))=X at *;have HX1:=ħ hX1;have HX2:=ħ hX2;have hl1:=hX1.lt;have HCL:Hid (∀Y,Below (w.heap.size+1) X Y→Y.cell? ⟨w,0,none⟩=some (.int .i64 D.id)∧Y.cell? ⟨w,2,none⟩=some (.int .i64 next)∧Y.cell? ⟨w,3,none⟩=some (.slice oA m oc)):=ħ (fun Y hY=>⟨(HX1.out.below hY y2).box.2 0 _ rfl,(HX1.out.below hY y2).box.2 2 _ rfl,(HX1.out.below hY y2).box.2 3 _ rfl⟩);clear hX1 hX2;have hl2:=HX2.out.lt;have hf2:=HX2.out.frozen;obtain ⟨g_0,g_1,g_2,g_3,g_4,g_5,g_6,g_7,g_8⟩:=bx9 HX1.out.box
   go_region_held3 (fun Y=>Y.cell? ⟨w,0,none⟩=some (.int .i64 D.id)∧Y.cell? ⟨w,2,none⟩=some (.int .i64 next)∧Y.cell? ⟨w,3,none⟩=some (.slice oA m oc))
    ((refine HCL.out _ ?_;(repeat (first|(with_reducible exact Below.refl _ _)|(exact ((((HZ7.out.setCell (Nat.le_refl _) _)).setCell (Nat.le_refl _) _).setCell (Nat.le_refl _) _))|((with_reducible refine Below.setCell ?_ ?_ _);rotate_left;(first|(simp;done)|(simp;omega)|omega))|(with_reducible refine Below.drew ?_)|((refine Below.trans ?_ (hb7.mono ?_));rotate_left;(first|(simp;omega)|omega))));done))
    ((go_at_call 26;refine ((fY) oA m oc (D.op.take 8) _ (HTK.out.up (aI)) y2).mono ?_;rintro e9 w7 ⟨v7,rfl,ho7,hb7⟩;obtain ⟨A7,c7,e7,_⟩:=bD.txs ho7 y13;obtain ⟨n7,hn7⟩:∃x,(D.op.take 8).length=x:=⟨_,rfl⟩;rw [hn7] at e7;clear hn7;subst e7;have hb7X:Below X X w7:=aA (aM (Below.refl _ _)) hb7;have hK7:=HX2.out.up hb7X;have HZ7:Hid (Below (w.heap.size+1) X w7):=ħ (hb7X.mono y2);have hz7:=hb7.size;(try simp at hz7);have hc7:=fun o=>(aK hb7).1 w.heap.size o y4;have hf7:=hK7.frozen;have hl7:=hK7.lt;obtain ⟨z_0,z_1,z_2⟩:=bx3 hK7.box;have HK7:=ħ hK7;have HO7:=ħ ho7;clear ho7 hK7))
   all_goals
    have hq7:bD w7 (w.heap.size+2) (.slice A7 n7 c7) (D.op.take 8):=HO7.out.mono y26;have HQ7:=ħ hq7;have hR:=((HK7.out.set_ 0 (.int .i64 D.id)).set_ 1 (.int .i64 next)).set_ 2 (.slice A7 n7 c7);obtain ⟨r_0,r_1,r_2⟩:=bx3 hR.box;clear hq7 hR;go_wp2_with fail
    exact bodyPost_ret (v:=.tuple #[.agg #[D.id,next,.slice A7 n7 c7],z0]) y99 rfl ⟨_,rfl,(((HQ7.out.set3 y2 _).set3 y2 _).set3 y2 _).mono y2,aI⟩
 · subst c1;have hmm:m=8:=by omega
   subst hmm;have ho8:(8:Int)≤(oc:Int):=by omega
   have ho8n:8≤oc:=by omega
   clear z1 hm;go_enter func41,ntmps41
   go_upto_region 6 with fail
   have hX1:Blk ((w.alloc (.cells #[D.id,D.nodes,next,.slice oA 8 oc,age,D.clock,.slice tA tn tc,.slice eA en ec,.slice rA rn rc] 27)).alloc (.cells #[z0,z0,n0] 43)) w.heap.size 27 [D.id,D.nodes,next,.slice oA 8 oc,age,D.clock,.slice tA tn tc,.slice eA en ec,.slice rA rn rc]:=(Blk.new w 27 [D.id,D.nodes,next,.slice oA 8 oc,age,D.clock,.slice tA tn tc,.slice eA en ec,.slice rA rn rc]).up (aJ)
   have hX2:Blk ((w.alloc (.cells #[D.id,D.nodes,next,.slice oA 8 oc,age,D.clock,.slice tA tn tc,.slice eA en ec,.slice rA rn rc] 27)).alloc (.cells #[z0,z0,n0] 43)) (w.heap.size+1) 43 [z0,z0,n0]:=by
    have:=Blk.new (w.alloc (.cells #[D.id,D.nodes,next,.slice oA 8 oc,age,D.clock,.slice tA tn tc,.slice eA en ec,.slice rA rn rc] 27)) 43 [z0,z0,n0];simpa using this
   have hbX:Below w w ((w.alloc (.cells #[D.id,D.nodes,next,.slice oA 8 oc,age,D.clock,.slice tA tn tc,.slice eA en ec,.slice rA rn rc] 27)).alloc (.cells #[z0,z0,n0] 43)):=aJ;have hzX:w.heap.size+2≤((w.alloc (.cells #[D.id,D.nodes,next,.slice oA 8 oc,age,D.clock,.slice tA tn tc,.slice eA en ec,.slice rA rn rc] 27)).alloc (.cells #[z0,z0,n0] 43)).heap.size:=by simp
   generalize ((w.alloc (.cells #[D.id,D.nodes,next,.slice oA 8 oc,age,D.clock,.slice tA tn tc,.slice eA en ec,.slice rA rn rc] 27)).alloc (.cells #[z0,z0,n0] 43))=X at *;have HX1:=ħ hX1;have HX2:=ħ hX2;have hl1:=hX1.lt;have HCL:Hid (∀Y,Below (w.heap.size+1) X Y→Y.cell? ⟨w,0,none⟩=some (.int .i64 D.id)∧Y.cell? ⟨w,2,none⟩=some (.int .i64 next)∧Y.cell? ⟨w,3,none⟩=some (.slice oA 8 oc)):=ħ (fun Y hY=>⟨(HX1.out.below hY y2).box.2 0 _ rfl,(HX1.out.below hY y2).box.2 2 _ rfl,(HX1.out.below hY y2).box.2 3 _ rfl⟩);clear hX1 hX2;have hl2:=HX2.out.lt;have hf2:=HX2.out.frozen;obtain ⟨g_0,g_1,g_2,g_3,g_4,g_5,g_6,g_7,g_8⟩:=bx9 HX1.out.box
   go_region_held3 (fun Y=>Y.cell? ⟨w,0,none⟩=some (.int .i64 D.id)∧Y.cell? ⟨w,2,none⟩=some (.int .i64 next)∧Y.cell? ⟨w,3,none⟩=some (.slice oA 8 oc))
    ((refine HCL.out _ ?_;(repeat (first|(with_reducible exact Below.refl _ _)|(exact ((((HZ7.out.setCell (Nat.le_refl _) _)).setCell (Nat.le_refl _) _).setCell (Nat.le_refl _) _))|((with_reducible refine Below.setCell ?_ ?_ _);rotate_left;(first|(simp;done)|(simp;omega)|omega))|(with_reducible refine Below.drew ?_)|((refine Below.trans ?_ (hb7.mono ?_));rotate_left;(first|(simp;omega)|omega))));done))
    ((go_at_call 26;refine ((fY) oA 8 oc (D.op.take 8) _ (HTK.out.up (aI)) y2).mono ?_;rintro e9 w7 ⟨v7,rfl,ho7,hb7⟩;obtain ⟨A7,c7,e7,_⟩:=bD.txs ho7 y13;obtain ⟨n7,hn7⟩:∃x,(D.op.take 8).length=x:=⟨_,rfl⟩;rw [hn7] at e7;clear hn7;subst e7;have hb7X:Below X X w7:=aA (aM (Below.refl _ _)) hb7;have hK7:=HX2.out.up hb7X;have HZ7:Hid (Below (w.heap.size+1) X w7):=ħ (hb7X.mono y2);have hz7:=hb7.size;(try simp at hz7);have hc7:=fun o=>(aK hb7).1 w.heap.size o y4;have hf7:=hK7.frozen;have hl7:=hK7.lt;obtain ⟨z_0,z_1,z_2⟩:=bx3 hK7.box;have HK7:=ħ hK7;have HO7:=ħ ho7;clear ho7 hK7))
   all_goals
    have hq7:bD w7 (w.heap.size+2) (.slice A7 n7 c7) (D.op.take 8):=HO7.out.mono y26;have HQ7:=ħ hq7;have hR:=((HK7.out.set_ 0 (.int .i64 D.id)).set_ 1 (.int .i64 next)).set_ 2 (.slice A7 n7 c7);obtain ⟨r_0,r_1,r_2⟩:=bx3 hR.box;clear hq7 hR;go_wp2_with fail
    exact bodyPost_ret (v:=.tuple #[.agg #[D.id,next,.slice A7 n7 c7],z0]) y99 rfl ⟨_,rfl,(((HQ7.out.set3 y2 _).set3 y2 _).set3 y2 _).mono y2,aI⟩
 · have hmm:m=8:=by omega
   subst hmm;have c1d:decide ((on:Int)<8)=false:=by simp;omega
   have hmin:min (on:Int) 8=8:=by omega
   have hm8d:decide (8<(on:Int))=true:=by simp;omega
   have hm8n:8<(on:Int):=by omega
   have hm8i:¬(on:Int)≤8:=by omega
   have hm8m':min 8 (on:Int)=8:=by omega
   have ho8:(8:Int)≤(oc:Int):=by omega
   clear z1 hm;go_enter func41,ntmps41
   go_upto_region 6 with fail
   have hX1:Blk ((w.alloc (.cells #[D.id,D.nodes,next,.slice oA on oc,age,D.clock,.slice tA tn tc,.slice eA en ec,.slice rA rn rc] 27)).alloc (.cells #[z0,z0,n0] 43)) w.heap.size 27 [D.id,D.nodes,next,.slice oA on oc,age,D.clock,.slice tA tn tc,.slice eA en ec,.slice rA rn rc]:=(Blk.new w 27 [D.id,D.nodes,next,.slice oA on oc,age,D.clock,.slice tA tn tc,.slice eA en ec,.slice rA rn rc]).up (aJ)
   have hX2:Blk ((w.alloc (.cells #[D.id,D.nodes,next,.slice oA on oc,age,D.clock,.slice tA tn tc,.slice eA en ec,.slice rA rn rc] 27)).alloc (.cells #[z0,z0,n0] 43)) (w.heap.size+1) 43 [z0,z0,n0]:=by
    have:=Blk.new (w.alloc (.cells #[D.id,D.nodes,next,.slice oA on oc,age,D.clock,.slice tA tn tc,.slice eA en ec,.slice rA rn rc] 27)) 43 [z0,z0,n0];simpa using this
   have hbX:Below w w ((w.alloc (.cells #[D.id,D.nodes,next,.slice oA on oc,age,D.clock,.slice tA tn tc,.slice eA en ec,.slice rA rn rc] 27)).alloc (.cells #[z0,z0,n0] 43)):=aJ;have hzX:w.heap.size+2≤((w.alloc (.cells #[D.id,D.nodes,next,.slice oA on oc,age,D.clock,.slice tA tn tc,.slice eA en ec,.slice rA rn rc] 27)).alloc (.cells #[z0,z0,n0] 43)).heap.size:=by simp
   generalize ((w.alloc (.cells #[D.id,D.nodes,next,.slice oA on oc,age,D.clock,.slice tA tn tc,.slice eA en ec,.slice rA rn rc] 27)).alloc (.cells #[z0,z0,n0] 43))=X at *;have HX1:=ħ hX1;have HX2:=ħ hX2;have hl1:=hX1.lt;have HCL:Hid (∀Y,Below (w.heap.size+1) X Y→Y.cell? ⟨w,0,none⟩=some (.int .i64 D.id)∧Y.cell? ⟨w,2,none⟩=some (.int .i64 next)∧Y.cell? ⟨w,3,none⟩=some (.slice oA on oc)):=ħ (fun Y hY=>⟨(HX1.out.below hY y2).box.2 0 _ rfl,(HX1.out.below hY y2).box.2 2 _ rfl,(HX1.out.below hY y2).box.2 3 _ rfl⟩);clear hX1 hX2;have hl2:=HX2.out.lt;have hf2:=HX2.out.frozen;obtain ⟨g_0,g_1,g_2,g_3,g_4,g_5,g_6,g_7,g_8⟩:=bx9 HX1.out.box
   go_region_held3 (fun Y=>Y.cell? ⟨w,0,none⟩=some (.int .i64 D.id)∧Y.cell? ⟨w,2,none⟩=some (.int .i64 next)∧Y.cell? ⟨w,3,none⟩=some (.slice oA on oc))
    ((refine HCL.out _ ?_;(repeat (first|(with_reducible exact Below.refl _ _)|(exact ((((HZ7.out.setCell (Nat.le_refl _) _)).setCell (Nat.le_refl _) _).setCell (Nat.le_refl _) _))|((with_reducible refine Below.setCell ?_ ?_ _);rotate_left;(first|(simp;done)|(simp;omega)|omega))|(with_reducible refine Below.drew ?_)|((refine Below.trans ?_ (hb7.mono ?_));rotate_left;(first|(simp;omega)|omega))));done))
    ((go_at_call 26;refine ((fY) oA 8 oc (D.op.take 8) _ (HTK.out.up (aI)) y2).mono ?_;rintro e9 w7 ⟨v7,rfl,ho7,hb7⟩;obtain ⟨A7,c7,e7,_⟩:=bD.txs ho7 y13;obtain ⟨n7,hn7⟩:∃x,(D.op.take 8).length=x:=⟨_,rfl⟩;rw [hn7] at e7;clear hn7;subst e7;have hb7X:Below X X w7:=aA (aM (Below.refl _ _)) hb7;have hK7:=HX2.out.up hb7X;have HZ7:Hid (Below (w.heap.size+1) X w7):=ħ (hb7X.mono y2);have hz7:=hb7.size;(try simp at hz7);have hc7:=fun o=>(aK hb7).1 w.heap.size o y4;have hf7:=hK7.frozen;have hl7:=hK7.lt;obtain ⟨z_0,z_1,z_2⟩:=bx3 hK7.box;have HK7:=ħ hK7;have HO7:=ħ ho7;clear ho7 hK7))
   all_goals
    have hq7:bD w7 (w.heap.size+2) (.slice A7 n7 c7) (D.op.take 8):=HO7.out.mono y26;have HQ7:=ħ hq7;have hR:=((HK7.out.set_ 0 (.int .i64 D.id)).set_ 1 (.int .i64 next)).set_ 2 (.slice A7 n7 c7);obtain ⟨r_0,r_1,r_2⟩:=bx3 hR.box;clear hq7 hR;go_wp2_with fail
    exact bodyPost_ret (v:=.tuple #[.agg #[D.id,next,.slice A7 n7 c7],z0]) y99 rfl ⟨_,rfl,(((HQ7.out.set3 y2 _).set3 y2 _).set3 y2 _).mono y2,aI⟩
end Go.Proofs.YtgfakefcmbpboaaGreat
