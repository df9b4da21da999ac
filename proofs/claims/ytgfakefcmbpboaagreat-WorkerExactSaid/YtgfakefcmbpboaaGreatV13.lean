/- Part 13 of what WorkerExact leans on. No conditions. -/
import Derived.Test.YtgfakefcmbpboaaGreatV8
import Derived.Test.YtgfakefcmbpboaaGreatV12
namespace Go.Proofs.YtgfakefcmbpboaaGreat
set_option linter.all false
set_option maxRecDepth 100000
set_option maxHeartbeats 64000000
open _root_.Go.Proofs.Tryz Go.RowKit
open Tok
theorem fN (H:eG) (b1A p1A b2A p2A:Option Addr) (b1n b1c p1n p1c b2n b2c p2n p2c:Nat) (w:World) (hp:dE w ⟨⟨b1A,b1n,b1c⟩,⟨p1A,p1n,p1c⟩⟩ H) (hq:dE w ⟨⟨b2A,b2n,b2c⟩,⟨p2A,p2n,p2c⟩⟩ H) :
 Calls prog 97 #[.agg #[H.au,H.ro,.slice b1A b1n b1c,.slice p1A p1n p1c],.agg #[H.au,H.ro,.slice b2A b2n b2c,.slice p2A p2n p2c]] w fun e w'=>e=.returned (.bool true)∧Below w w w':=by
 have h1:aL w b1A b1n H.ba:=hp.1;have h2:aL w p1A p1n H.pa:=hp.2;have h3:aL w b2A b2n H.ba:=hq.1;have h4:aL w p2A p2n H.pa:=hq.2;have G1:=ħ h1;have G2:=ħ h2;have G3:=ħ h3;have G4:=ħ h4;clear hp hq h1 h2 h3 h4;go_enter func97,ntmps97
 go_wp2_with fail
 refine (dW b1A b1n b1c H.ba b2A b2n b2c _ (G1.out.up (aJ)) (G3.out.up (aJ))).mono ?_;rintro e w1 ⟨rfl,hb1⟩;have hz_w1:w.heap.size+2≤w1.heap.size:=y19;have hc0_w1:=fun o=>(aK hb1).1 (w.heap.size) o y4;have hc1_w1:=fun o=>(aK hb1).1 (w.heap.size+1) o y4;go_wp2_with fail
 refine (dW p1A p1n p1c H.pa p2A p2n p2c _ (G2.out.up (aJ)) (G4.out.up (aJ))).mono ?_;rintro e w2 ⟨rfl,hb2⟩;go_wp2_with fail
 go_ret
 exact ⟨rfl,aJ⟩
theorem xM (C:mG) (b1A p1A s1A b2A p2A s2A:Option Addr) (b1n b1c p1n p1c s1n s1c b2n b2c p2n p2c s2n s2c:Nat) (w:World) (hp:iB w ⟨⟨⟨b1A,b1n,b1c⟩,⟨p1A,p1n,p1c⟩⟩,⟨s1A,s1n,s1c⟩⟩ C) (hq:iB w ⟨⟨⟨b2A,b2n,b2c⟩,⟨p2A,p2n,p2c⟩⟩,⟨s2A,s2n,s2c⟩⟩ C) :
 Calls prog 98 #[.agg #[C.h.au,C.h.ro,.slice b1A b1n b1c,.slice p1A p1n p1c,C.di,.slice s1A s1n s1c],.agg #[C.h.au,C.h.ro,.slice b2A b2n b2c,.slice p2A p2n p2c,C.di,.slice s2A s2n s2c]] w fun e w'=>e=.returned (.bool true)∧Below w w w':=by
 have h1:dE w ⟨⟨b1A,b1n,b1c⟩,⟨p1A,p1n,p1c⟩⟩ C.h:=hp.1;have h2:dE w ⟨⟨b2A,b2n,b2c⟩,⟨p2A,p2n,p2c⟩⟩ C.h:=hq.1;have h3:aL w s1A s1n C.si:=hp.2;have h4:aL w s2A s2n C.si:=hq.2;have G1:=ħ h1;have G2:=ħ h2;have G3:=ħ h3;have G4:=ħ h4;clear hp hq h1 h2 h3 h4;go_enter func98,ntmps98
 go_wp2_with fail
 refine (fN C.h b1A p1A b2A p2A b1n b1c p1n p1c b2n b2c p2n p2c _ (G1.out.up (aJ)) (G2.out.up (aJ))).mono ?_;rintro e w1 ⟨rfl,hb1⟩;have hz_w1:w.heap.size+2≤w1.heap.size:=y19;have hc0_w1:=fun o=>(aK hb1).1 (w.heap.size) o y4;have hc1_w1:=fun o=>(aK hb1).1 (w.heap.size+1) o y4;go_wp2_with fail
 refine (dW s1A s1n s1c C.si s2A s2n s2c _ (G3.out.up (aJ)) (G4.out.up (aJ))).mono ?_;rintro e w2 ⟨rfl,hb2⟩;go_wp2_with fail
 go_ret
 exact ⟨rfl,aJ⟩
theorem mO (P Q:bQ) (M:aY) (w:World) (h:eO w P M) (h':eO w Q M) :
 Calls prog 52 #[M18 P M,M18 Q M] w fun e w'=>e=.returned (.bool true)∧Below w w w':=by
 have H:=ħ h;have H':=ħ h';clear h h';show Calls prog 52 #[.agg (cM M P),.agg (cM M Q)] w _;go_enter func52,ntmps52
 go_wp2_with fail
 refine (fZ M.b P.b.A P.b.n P.b.c Q.b.A Q.b.n Q.b.c _ (H.out.tx.up (aI)) (H'.out.tx.up (aI))).mono ?_;rintro e w1 ⟨rfl,hb1⟩;have hz_w1:w.heap.size+2≤w1.heap.size:=y19;have hc0_w1:=fun o=>(aK hb1).1 (w.heap.size) o y4;have hc1_w1:=fun o=>(aK hb1).1 (w.heap.size+1) o y4;go_wp2_with fail
 refine (fN M.h P.h.b.A P.h.p.A Q.h.b.A Q.h.p.A P.h.b.n P.h.b.c P.h.p.n P.h.p.c Q.h.b.n Q.h.b.c Q.h.p.n Q.h.p.c _ (H.out.h.up (aI)) (H'.out.h.up (aI))).mono ?_;rintro e w2 ⟨rfl,hb2⟩;have hz_w2:w.heap.size+2≤w2.heap.size:=y71;have hc0_w2:=fun o=>(aK hb2).1 (w.heap.size) o y4;have hc1_w2:=fun o=>(aK hb2).1 (w.heap.size+1) o y4;go_wp2_with fail
 refine (xM M.c P.c.h.b.A P.c.h.p.A P.c.s.A Q.c.h.b.A Q.c.h.p.A Q.c.s.A P.c.h.b.n P.c.h.b.c P.c.h.p.n P.c.h.p.c P.c.s.n P.c.s.c Q.c.h.b.n Q.c.h.b.c Q.c.h.p.n Q.c.h.p.c Q.c.s.n Q.c.s.c _ (H.out.c.up (aI)) (H'.out.c.up (aI))).mono ?_;rintro e w3 ⟨rfl,hb3⟩;have hz_w3:w.heap.size+2≤w3.heap.size:=(by have hq:=(hb3).size;(try simp at hq);omega);have hc0_w3:=fun o=>(aK hb3).1 (w.heap.size) o y4;have hc1_w3:=fun o=>(aK hb3).1 (w.heap.size+1) o y4;go_wp2_with fail
 refine (dW P.ds.A P.ds.n P.ds.c M.ds Q.ds.A Q.ds.n Q.ds.c _ (H.out.ds.up (aI)) (H'.out.ds.up (aI))).mono ?_;rintro e w4 ⟨rfl,hb4⟩;go_wp2_with fail
 go_ret
 exact ⟨rfl,aI⟩
theorem bW {P:Program} {ops:Array Oper} {Q:Exit→Act→World→Prop} {md:Region.Mode} {S:World→Prop} (i:Nat) (d:Option Tmp) {oi:Oper} {v:Value} {fuel:Nat} {listed:Array Bool} {a:Act} {w:World} (hi:ops[i]? =some oi) (hd:oi.dst=d)
 (hv:∀w,S w→(execOp a.eval oi).run P w=.ok (.value v) w) (h:wpAnyH P md ops Q S fuel (listed.setIfInBounds i true) (a.put d v) w)
 (hs:Region.noSelect ops=true:=by kernel_rfl) (hf:Region.free md ops listed i=true:=by kernel_rfl) (hr:(Region.ready md ops listed).contains i=true:=by kernel_rfl) (hw:Region.wanted oi (yielded ops a.tmps)=true:=by rfl)
 (hQ:∀c a w,Q (.panic c) (a.put d v) w→Q (.panic c) a w:=by exact fun _ _ _ h=>h) (hS:S w:=by assumption):wpAnyH P md ops Q S (fuel+1) listed a w:=
 jE hi hd hs hf hr hQ (Or.inl ⟨hw,hv⟩) hS h
theorem bO (A:Option Addr) (n c:Nat) (A':Option Addr) (n' c':Nat) (l:List aY) (w:World) (hl:eJ w A n l) (hl':eJ w A' n' l) :
 Calls prog 62 #[.slice A n c,.slice A' n' c'] w fun e w'=>e=.returned (.bool true)∧Below w w w':=by
 have hnn:n'=n:=by rw [←hl.1,← hl'.1]
 subst hnn;have HL:=ħ hl;have HL':=ħ hl';have hn:n'≤9223372036854775807:=hl.2.1;clear hl hl';go_enter func62,ntmps62
 go_wp2_with fail
 go_loopw [5] (fun si wr=>∃k:Nat,k≤n'∧si=.int .i64 k∧Below w w wr) (fun si _=>n'-(intOf si).toNat)
 case atStart=>exact ⟨0,Nat.zero_le _,rfl,Below.refl _ _⟩
 case round=>
  obtain ⟨k,hk,rfl,hbw⟩:=hrel
  (obtain ⟨wk,hwk⟩:∃x,x=wr:=⟨_,rfl⟩);subst hwk
  by_cases hlt:k<n'
  · obtain ⟨b,off,rfl,hb,hc⟩:=(HL.out.up hbw).2.2 y2;obtain ⟨P,f0,hin⟩:=hc k hlt;obtain ⟨b',off',rfl,hb',hc'⟩:=(HL'.out.up hbw).2.2 y2;obtain ⟨Q,f1,hin'⟩:=hc' k hlt;have HIN:=ħ hin;have HIN':=ħ hin';obtain ⟨S,hS⟩:∃S:World→Prop,S=fun Y=>Y.rangeAt b (off+k*18) (dB P (mth l k))∧Y.rangeAt b' (off'+k*18) (dB Q (mth l k)):=⟨_,rfl⟩;have hS0:S wk.drew:=by rw [hS];exact ⟨f0,f1⟩
    have hS1:∀Y,S Y→Y.rangeAt b (off+k*18) (dB P (mth l k)):=fun Y h=>by rw [hS] at h;exact h.1
    have hS2:∀Y,S Y→Y.rangeAt b' (off'+k*18) (dB Q (mth l k)):=fun Y h=>by rw [hS] at h;exact h.2
    have hS3:∀Y,Below wk wk Y→S Y:=fun Y hY=>by rw [hS];exact ⟨fun r u hu=>((aK hY).1 _ _ hb).trans (f0 r u hu),fun r u hu=>((aK hY).1 _ _ hb').trans (f1 r u hu)⟩
    have hbl:(0:Int)≤(k:Int):=by omega
    have hkl:(k:Int)<(n':Int):=by omega
    clear hc hc' hin hin' f0 f1 hS;go_upto_region 6 with fail
    refine wp_region_held_drew (S:=S) y8 hS0 (fun hHeld=>?_)
    (refine bW 0 (some 17) (v:=?_) rfl rfl ?_ ?_;rotate_left;(focus (intro wq hSw;(try dsimp only at hSw);go_simp;all_goals (with_reducible rfl)));simp only [lz])
    (refine bW 1 (some 18) (v:=?_) rfl rfl ?_ ?_;rotate_left;(focus (intro wq hSw;(try dsimp only at hSw);go_simp;all_goals (with_reducible rfl)));simp only [lz])
    (refine bW 2 (some 19) (v:=?_) rfl rfl ?_ ?_;rotate_left;(focus (intro wq hSw;(try dsimp only at hSw);go_simp;all_goals (with_reducible rfl)));simp only [lz])
    refine ld 3 20 hS1 underlying49 ?_
    (refine bW 4 (some 21) (v:=?_) rfl rfl ?_ ?_;rotate_left;(focus (intro wq hSw;(try dsimp only at hSw);go_simp;all_goals (with_reducible rfl)));simp only [lz])
    (refine bW 5 (some 22) (v:=?_) rfl rfl ?_ ?_;rotate_left;(focus (intro wq hSw;(try dsimp only at hSw);go_simp;all_goals (with_reducible rfl)));simp only [lz])
    (refine bW 6 (some 23) (v:=?_) rfl rfl ?_ ?_;rotate_left;(focus (intro wq hSw;(try dsimp only at hSw);go_simp;all_goals (with_reducible rfl)));simp only [lz])
    refine ld 7 24 hS2 underlying49 ?_;refine ry 8 fun K hK=>?_;go_simp;(go_at_call 52;refine (mO P Q (mth l k) _ (HIN.out.up (aI)) (HIN'.out.up (aI))).mono ?_;rintro e9 w3 ⟨rfl,hb3⟩;have hb3w:Below wk wk w3:=aA (aM (Below.refl _ _)) hb3)
    refine hK.out _ _ (hS3 _ hb3w) (fun hHeld=>?_);clear hK K
    try simp only [lz]
    (refine bW 9 (some 26) (v:=?_) rfl rfl ?_ ?_;rotate_left;(focus (intro wq hSw;(try dsimp only at hSw);go_simp;all_goals (with_reducible rfl)));simp only [lz])
    refine wz ?_;go_wp2_with fail
    (refine rnd ?_;exact ⟨k+1,by omega,by go_num,aA hbw hb3w⟩)
  · go_wp2_with fail
    go_ret
    exact ⟨rfl,hbw⟩
theorem I0 {p:Prop} (h:p):dec p=true:=bJ.2 h
theorem BE (A:Option Addr) (n c:Nat) (A':Option Addr) (n' c':Nat) (l l':List TxD) (w:World) (hl:bZ w A n l) (hl':bZ w A' n' l') (hx:l=l'∨l=[]) (h:l≠l') :
 Calls prog 80 #[.slice A n c,.slice A' n' c'] w fun e w'=>e=.returned (.bool false)∧Below w w w':=by
 have hnm:¬n=n':=by
  rintro rfl;rcases hx with e|e
  · exact h e
  · subst e;have e1:=hl.1;have e2:=hl'.1;simp only [List.length_nil] at e1;exact h (List.eq_nil_of_length_eq_zero y2).symm
 clear hx h hl hl';go_enter func80,ntmps80
 go_wp2_with fail
 go_ret
 exact ⟨rfl,aI⟩
theorem gL (A:Option Addr) (n c:Nat) (l:List Int) (B:Option Addr) (m d:Nat) (k:List Int) (w:World) (hl:aL w A n l) (hk:aL w B m k) (h:l≠k) :
 Calls prog 65 #[.slice A n c,.slice B m d] w fun e w'=>e=.returned (.bool false)∧Below w w w':=
 (mP A n c l B m d k w hl hk).mono fun e w' ⟨h1,h2⟩=>⟨by rw [h1];exact aH (dV h).symm,h2⟩
theorem zY (b b':bY) (A:Option Addr) (n c:Nat) (A':Option Addr) (n' c':Nat) (w:World) (hl:bZ w A n b.tx) (hl':bZ w A' n' b'.tx) (hx:b.tx=b'.tx∨b.tx=[]) (h:b≠b') :
 Calls prog 43 #[.agg #[b.au,b.n,.slice A n c],.agg #[b'.au,b'.n,.slice A' n' c']] w fun e w'=>e=.returned (.bool false)∧Below w w w':=by
 obtain ⟨au,bn,tx⟩:=b;obtain ⟨au',bn',tx'⟩:=b';dsimp only at hl hl' hx ⊢;have HL:=ħ hl;have HL':=ħ hl';have HX:=ħ hx;clear hl hl' hx;by_cases h0:au=au'
 rotate_left
 · clear h;go_enter func43,ntmps43
   go_wp2_with fail
   go_ret
   exact ⟨rfl,aI⟩
 subst h0;by_cases h1:bn=bn'
 rotate_left
 · clear h;go_enter func43,ntmps43
   go_wp2_with fail
   go_ret
   exact ⟨rfl,aI⟩
 subst h1;have h2:tx≠tx':=fun e=>h (by rw [e]);clear h;go_enter func43,ntmps43
 go_wp2_with fail
 refine (BE A n c A' n' c' tx tx' _ (HL.out.up (aI)) (HL'.out.up (aI)) HX.out h2).mono ?_;rintro e w1 ⟨rfl,hb1⟩;go_wp2_with fail
 go_ret
 exact ⟨rfl,aI⟩
theorem oG (H K:eG) (b1A p1A b2A p2A:Option Addr) (b1n b1c p1n p1c b2n b2c p2n p2c:Nat) (w:World) (hp:dE w ⟨⟨b1A,b1n,b1c⟩,⟨p1A,p1n,p1c⟩⟩ H) (hq:dE w ⟨⟨b2A,b2n,b2c⟩,⟨p2A,p2n,p2c⟩⟩ K) (h:H≠K) :
 Calls prog 97 #[.agg #[H.au,H.ro,.slice b1A b1n b1c,.slice p1A p1n p1c],.agg #[K.au,K.ro,.slice b2A b2n b2c,.slice p2A p2n p2c]] w fun e w'=>e=.returned (.bool false)∧Below w w w':=by
 obtain ⟨au,ro,ba,pa⟩:=H;obtain ⟨au',ro',ba',pa'⟩:=K;have h1:aL w b1A b1n ba:=hp.1;have h2:aL w p1A p1n pa:=hp.2;have h3:aL w b2A b2n ba':=hq.1;have h4:aL w p2A p2n pa':=hq.2;have G1:=ħ h1;have G2:=ħ h2;have G3:=ħ h3;have G4:=ħ h4;clear hp hq h1 h2 h3 h4;dsimp only;by_cases h0:au=au'
 rotate_left
 · clear h;go_enter func97,ntmps97
   go_wp2_with fail
   go_ret
   exact ⟨rfl,aI⟩
 subst h0;by_cases h1:ro=ro'
 rotate_left
 · clear h;go_enter func97,ntmps97
   go_wp2_with fail
   go_ret
   exact ⟨rfl,aI⟩
 subst h1;by_cases h2:ba=ba'
 rotate_left
 · clear h;go_enter func97,ntmps97
   go_wp2_with fail
   refine (gL b1A b1n b1c ba b2A b2n b2c ba' _ (G1.out.up (aI)) (G3.out.up (aI)) h2).mono ?_;rintro e w1 ⟨rfl,hb1⟩;go_wp2_with fail
   go_ret
   exact ⟨rfl,aI⟩
 subst h2;have h3:pa≠pa':=fun e=>h (by rw [e]);clear h;go_enter func97,ntmps97
 go_wp2_with fail
 refine (dW b1A b1n b1c ba b2A b2n b2c _ (G1.out.up (aI)) (G3.out.up (aI))).mono ?_;rintro e w1 ⟨rfl,hb1⟩;have hz_w1:w.heap.size+2≤w1.heap.size:=y19;have hc0_w1:=fun o=>(aK hb1).1 (w.heap.size) o y4;have hc1_w1:=fun o=>(aK hb1).1 (w.heap.size+1) o y4;go_wp2_with fail
 refine (gL p1A p1n p1c pa p2A p2n p2c pa' _ (G2.out.up (aI)) (G4.out.up (aI)) h3).mono ?_;rintro e w2 ⟨rfl,hb2⟩;go_wp2_with fail
 go_ret
 exact ⟨rfl,aI⟩
theorem Bc (C K:mG) (b1A p1A s1A b2A p2A s2A:Option Addr) (b1n b1c p1n p1c s1n s1c b2n b2c p2n p2c s2n s2c:Nat) (w:World) (hp:iB w ⟨⟨⟨b1A,b1n,b1c⟩,⟨p1A,p1n,p1c⟩⟩,⟨s1A,s1n,s1c⟩⟩ C) (hq:iB w ⟨⟨⟨b2A,b2n,b2c⟩,⟨p2A,p2n,p2c⟩⟩,⟨s2A,s2n,s2c⟩⟩ K) (h:C≠K) :
 Calls prog 98 #[.agg #[C.h.au,C.h.ro,.slice b1A b1n b1c,.slice p1A p1n p1c,C.di,.slice s1A s1n s1c],.agg #[K.h.au,K.h.ro,.slice b2A b2n b2c,.slice p2A p2n p2c,K.di,.slice s2A s2n s2c]] w fun e w'=>e=.returned (.bool false)∧Below w w w':=by
 obtain ⟨H,di,si⟩:=C;obtain ⟨H',di',si'⟩:=K;have h1:dE w ⟨⟨b1A,b1n,b1c⟩,⟨p1A,p1n,p1c⟩⟩ H:=hp.1;have h2:dE w ⟨⟨b2A,b2n,b2c⟩,⟨p2A,p2n,p2c⟩⟩ H':=hq.1;have h3:aL w s1A s1n si:=hp.2;have h4:aL w s2A s2n si':=hq.2;have G1:=ħ h1;have G2:=ħ h2;have G3:=ħ h3;have G4:=ħ h4;clear hp hq h1 h2 h3 h4;dsimp only;by_cases h0:H=H'
 rotate_left
 · clear h;go_enter func98,ntmps98
   go_wp2_with fail
   refine (oG H H' b1A p1A b2A p2A b1n b1c p1n p1c b2n b2c p2n p2c _ (G1.out.up (aI)) (G2.out.up (aI)) h0).mono ?_;rintro e w1 ⟨rfl,hb1⟩;go_wp2_with fail
   go_ret
   exact ⟨rfl,aI⟩
 subst h0;by_cases h1:di=di'
 rotate_left
 · clear h;go_enter func98,ntmps98
   go_wp2_with fail
   refine (fN H b1A p1A b2A p2A b1n b1c p1n p1c b2n b2c p2n p2c _ (G1.out.up (aI)) (G2.out.up (aI))).mono ?_;rintro e w1 ⟨rfl,hb1⟩;have hz_w1:w.heap.size+2≤w1.heap.size:=y19;have hc0_w1:=fun o=>(aK hb1).1 (w.heap.size) o y4;have hc1_w1:=fun o=>(aK hb1).1 (w.heap.size+1) o y4;go_wp2_with fail
   go_ret
   exact ⟨rfl,aI⟩
 subst h1;have h2:si≠si':=fun e=>h (by rw [e]);clear h;go_enter func98,ntmps98
 go_wp2_with fail
 refine (fN H b1A p1A b2A p2A b1n b1c p1n p1c b2n b2c p2n p2c _ (G1.out.up (aI)) (G2.out.up (aI))).mono ?_;rintro e w1 ⟨rfl,hb1⟩;have hz_w1:w.heap.size+2≤w1.heap.size:=y19;have hc0_w1:=fun o=>(aK hb1).1 (w.heap.size) o y4;have hc1_w1:=fun o=>(aK hb1).1 (w.heap.size+1) o y4;go_wp2_with fail
 refine (gL s1A s1n s1c si s2A s2n s2c si' _ (G3.out.up (aI)) (G4.out.up (aI)) h2).mono ?_;rintro e w2 ⟨rfl,hb2⟩;go_wp2_with fail
 go_ret
 exact ⟨rfl,aI⟩
theorem xN (P Q:bQ) (X M:aY) (w:World) (hp:eO w P X) (hq:eO w Q M) (hx:X.b.tx=M.b.tx∨X.b.tx=[]) (h:X≠M) :
 Calls prog 52 #[M18 P X,M18 Q M] w fun e w'=>e=.returned (.bool false)∧Below w w w':=by
 obtain ⟨⟨bA,bn,bc⟩,⟨⟨xA,xn,xc⟩,⟨yA,yn,yc⟩⟩,⟨⟨⟨cA,cn,cd⟩,⟨dA,dn,dc⟩⟩,⟨sA,sn,sc⟩⟩,⟨eA,en,ec⟩⟩:=P;obtain ⟨⟨bA',bn',bc'⟩,⟨⟨xA',xn',xc'⟩,⟨yA',yn',yc'⟩⟩,⟨⟨⟨cA',cn',cd'⟩,⟨dA',dn',dc'⟩⟩,⟨sA',sn',sc'⟩⟩,⟨eA',en',ec'⟩⟩:=Q;obtain ⟨ki,fr,tt,di,b,hh,cc,ds⟩:=X;obtain ⟨ki',fr',tt',di',b',hh',cc',ds'⟩:=M;have G1:Hid (bZ w bA bn b.tx):=ħ hp.tx;have G2:Hid (bZ w bA' bn' b'.tx):=ħ hq.tx;have G3:Hid (dE w ⟨⟨xA,xn,xc⟩,⟨yA,yn,yc⟩⟩ hh):=ħ hp.h;have G4:Hid (dE w ⟨⟨xA',xn',xc'⟩,⟨yA',yn',yc'⟩⟩ hh'):=ħ hq.h;have G5:Hid (iB w ⟨⟨⟨cA,cn,cd⟩,⟨dA,dn,dc⟩⟩,⟨sA,sn,sc⟩⟩ cc):=ħ hp.c;have G6:Hid (iB w ⟨⟨⟨cA',cn',cd'⟩,⟨dA',dn',dc'⟩⟩,⟨sA',sn',sc'⟩⟩ cc'):=ħ hq.c;have G7:Hid (aL w eA en ds):=ħ hp.ds;have G8:Hid (aL w eA' en' ds'):=ħ hq.ds;have HX:Hid (b.tx=b'.tx∨b.tx=[]):=ħ hx;clear hp hq hx;show Calls prog 52 #[.agg (cN ki fr tt di b hh cc bA bn bc xA xn xc yA yn yc cA cn cd dA dn dc sA sn sc eA en ec),.agg (cN ki' fr' tt' di' b' hh' cc' bA' bn' bc' xA' xn' xc' yA' yn' yc' cA' cn' cd' dA' dn' dc' sA' sn' sc' eA' en' ec')] w fun e w'=>e=.returned (.bool false)∧Below w w w';by_cases h0:ki=ki'
 rotate_left
 · clear h;go_enter func52,ntmps52
   go_wp2_with fail
   go_ret
   exact ⟨rfl,aI⟩
 subst h0;by_cases h1:fr=fr'
 rotate_left
 · clear h;go_enter func52,ntmps52
   go_wp2_with fail
   go_ret
   exact ⟨rfl,aI⟩
 subst h1;by_cases h2:tt=tt'
 rotate_left
 · clear h;go_enter func52,ntmps52
   go_wp2_with fail
   go_ret
   exact ⟨rfl,aI⟩
 subst h2;by_cases h3:di=di'
 rotate_left
 · clear h;go_enter func52,ntmps52
   go_wp2_with fail
   go_ret
   exact ⟨rfl,aI⟩
 subst h3;by_cases h4:b=b'
 rotate_left
 · clear h;go_enter func52,ntmps52
   go_wp2_with fail
   refine (zY b b' bA bn bc bA' bn' bc' _ (G1.out.up (aI)) (G2.out.up (aI)) HX.out h4).mono ?_;rintro e w1 ⟨rfl,hb1⟩;go_wp2_with fail
   go_ret
   exact ⟨rfl,aI⟩
 subst h4;by_cases h5:hh=hh'
 rotate_left
 · clear h;go_enter func52,ntmps52
   go_wp2_with fail
   refine (fZ b bA bn bc bA' bn' bc' _ (G1.out.up (aI)) (G2.out.up (aI))).mono ?_;rintro e w1 ⟨rfl,hb1⟩;have hz_w1:w.heap.size+2≤w1.heap.size:=y19;have hc0_w1:=fun o=>(aK hb1).1 (w.heap.size) o y4;have hc1_w1:=fun o=>(aK hb1).1 (w.heap.size+1) o y4;go_wp2_with fail
   refine (oG hh hh' xA yA xA' yA' xn xc yn yc xn' xc' yn' yc' _ (G3.out.up (aI)) (G4.out.up (aI)) h5).mono ?_;rintro e w2 ⟨rfl,hb2⟩;go_wp2_with fail
   go_ret
   exact ⟨rfl,aI⟩
 subst h5;by_cases h6:cc=cc'
 rotate_left
 · clear h;go_enter func52,ntmps52
   go_wp2_with fail
   refine (fZ b bA bn bc bA' bn' bc' _ (G1.out.up (aI)) (G2.out.up (aI))).mono ?_;rintro e w1 ⟨rfl,hb1⟩;have hz_w1:w.heap.size+2≤w1.heap.size:=y19;have hc0_w1:=fun o=>(aK hb1).1 (w.heap.size) o y4;have hc1_w1:=fun o=>(aK hb1).1 (w.heap.size+1) o y4;go_wp2_with fail
   refine (fN hh xA yA xA' yA' xn xc yn yc xn' xc' yn' yc' _ (G3.out.up (aI)) (G4.out.up (aI))).mono ?_;rintro e w2 ⟨rfl,hb2⟩;have hz_w2:w.heap.size+2≤w2.heap.size:=y71;have hc0_w2:=fun o=>(aK hb2).1 (w.heap.size) o y4;have hc1_w2:=fun o=>(aK hb2).1 (w.heap.size+1) o y4;go_wp2_with fail
   refine (Bc cc cc' cA dA sA cA' dA' sA' cn cd dn dc sn sc cn' cd' dn' dc' sn' sc' _ (G5.out.up (aI)) (G6.out.up (aI)) h6).mono ?_;rintro e w3 ⟨rfl,hb3⟩;go_wp2_with fail
   go_ret
   exact ⟨rfl,aI⟩
 subst h6;have h7:ds≠ds':=fun e=>h (by rw [e]);clear h;go_enter func52,ntmps52
 go_wp2_with fail
 refine (fZ b bA bn bc bA' bn' bc' _ (G1.out.up (aI)) (G2.out.up (aI))).mono ?_;rintro e w1 ⟨rfl,hb1⟩;have hz_w1:w.heap.size+2≤w1.heap.size:=y19;have hc0_w1:=fun o=>(aK hb1).1 (w.heap.size) o y4;have hc1_w1:=fun o=>(aK hb1).1 (w.heap.size+1) o y4;go_wp2_with fail
 refine (fN hh xA yA xA' yA' xn xc yn yc xn' xc' yn' yc' _ (G3.out.up (aI)) (G4.out.up (aI))).mono ?_;rintro e w2 ⟨rfl,hb2⟩;have hz_w2:w.heap.size+2≤w2.heap.size:=y71;have hc0_w2:=fun o=>(aK hb2).1 (w.heap.size) o y4;have hc1_w2:=fun o=>(aK hb2).1 (w.heap.size+1) o y4;go_wp2_with fail
 refine (xM cc cA dA sA cA' dA' sA' cn cd dn dc sn sc cn' cd' dn' dc' sn' sc' _ (G5.out.up (aI)) (G6.out.up (aI))).mono ?_;rintro e w3 ⟨rfl,hb3⟩;have hz_w3:w.heap.size+2≤w3.heap.size:=(by have hq:=(hb3).size;(try simp at hq);omega);have hc0_w3:=fun o=>(aK hb3).1 (w.heap.size) o y4;have hc1_w3:=fun o=>(aK hb3).1 (w.heap.size+1) o y4;go_wp2_with fail
 refine (gL eA en ec ds eA' en' ec' ds' _ (G7.out.up (aI)) (G8.out.up (aI)) h7).mono ?_;rintro e w4 ⟨rfl,hb4⟩;go_wp2_with fail
 go_ret
 exact ⟨rfl,aI⟩
theorem zZ (P Q:bQ) (X M:aY) (w:World) (hp:eO w P X) (hq:eO w Q M) (hx:X.b.tx=M.b.tx∨X.b.tx=[]) :
 Calls prog 52 #[M18 P X,M18 Q M] w fun e w'=>e=.returned (.bool (dec (X=M)))∧Below w w w':=by
 by_cases h:X=M
 · subst h;exact (mO P Q X w hp hq).mono fun e w' ⟨h1,h2⟩=>⟨by rw [h1,I0 rfl],h2⟩
 · exact (xN P Q X M w hp hq hx h).mono fun e w' ⟨h1,h2⟩=>⟨by rw [h1];exact aH (dV h),h2⟩
def sl0:SlP:=⟨none,0,0⟩
def EO:bY:=⟨0,0,[]⟩
def D3:eG:=⟨0,0,[],[]⟩
def DY:mG:=⟨⟨0,0,[],[]⟩,0,[]⟩
def eB (M:aY):aY:=
 if M.ki=1∨M.ki=3 then ⟨M.ki,M.fr,M.tt,M.di,M.b,D3,DY,[]⟩
 else if M.ki=2∨M.ki=5 then ⟨M.ki,M.fr,M.tt,M.di,EO,D3,DY,[]⟩
 else if M.ki=4 then ⟨M.ki,M.fr,M.tt,M.di,EO,M.h,DY,[]⟩
 else if M.ki=6 then ⟨M.ki,M.fr,M.tt,0,EO,D3,M.c,[]⟩
 else if M.ki=7∨M.ki=8 then ⟨M.ki,M.fr,M.tt,0,EO,D3,DY,M.ds⟩
 else ⟨M.ki,M.fr,M.tt,0,EO,D3,DY,[]⟩
def jX (P:bQ) (M:aY):bQ:=
 if M.ki=1∨M.ki=3 then ⟨P.b,⟨sl0,sl0⟩,⟨⟨sl0,sl0⟩,sl0⟩,sl0⟩
 else if M.ki=2∨M.ki=5 then ⟨sl0,⟨sl0,sl0⟩,⟨⟨sl0,sl0⟩,sl0⟩,sl0⟩
 else if M.ki=4 then ⟨sl0,P.h,⟨⟨sl0,sl0⟩,sl0⟩,sl0⟩
 else if M.ki=6 then ⟨sl0,⟨sl0,sl0⟩,P.c,sl0⟩
 else if M.ki=7∨M.ki=8 then ⟨sl0,⟨sl0,sl0⟩,⟨⟨sl0,sl0⟩,sl0⟩,P.ds⟩
 else ⟨sl0,⟨sl0,sl0⟩,⟨⟨sl0,sl0⟩,sl0⟩,sl0⟩
def okM (M:aY) (n:Int):Prop:=
 if M.ki=1∨M.ki=3 then fX M.di=true∧bmT M.b=true∧M.b.au≤n
 else if M.ki=2∨M.ki=5 then fX M.di=true
 else if M.ki=4 then fX M.di=true∧iS M.h n=true∧M.h.au=M.fr
 else if M.ki=6 then mV M.c n=true
 else if M.ki=7∨M.ki=8 then 1≤M.ds.length∧M.ds.length≤16∧fP M.ds 1 65536=true
 else False
def hdM (M:aY) (n:Int):Prop:=isS n=true∧1≤M.fr∧M.fr≤n∧1≤M.tt∧M.tt≤n∧M.fr≠M.tt
noncomputable def kI (M:aY) (n:Int):Bool:=dec (hdM M n∧okM M n∧eB M=M)
theorem aW {F:World→Prop} {w:World} (h:∀W,W=w→F W):F w:=h w rfl
theorem Blk.rng {w:World} {g:Nat} {t:TypeId} {cs:List Value} (h:Blk w g t cs):w.rangeAt g 0 cs:=fun j u hu=>by rw [Nat.zero_add];exact h.box.2 j u hu
theorem Blk.new1 (w:World) (t t':TypeId) (cs ds:List Value):Blk ((w.alloc (.cells cs.toArray t)).alloc (.cells ds.toArray t')) (w.heap.size+1) t' ds:=by
 have h:=Blk.new (w.alloc (.cells cs.toArray t)) t' ds
 rwa [show (w.alloc (.cells cs.toArray t)).heap.size=w.heap.size+1 by simp] at h
theorem Fv {P:Program} {ops:Array Oper} {rest:List Oper} {op:Oper} {a:Act} {w:World} {Q:Exit→Act→World→Prop} (hg:Region.wanted op (yielded ops a.tmps)=true) (ty:TypeId) (x:Operand) (ho:op.op=.load ty x)
 (b o:Nat) (hx:a.eval x=.pointer (some ⟨b,o,none⟩)) (cs:List Value) (d:TypeDesc) (hc:w.rangeAt b o cs)
 (hu:P.underlying ty=some d) (hd:d.isRow=true) (hi:(P.info? ty).map (·.size)=some cs.length)
 (h:wpList P ops Q rest (a.put op.dst (.agg cs.toArray)) w):wpList P ops Q (op :: rest) a w:=
 wpList_step fun _ hK=>by rw [if_pos hg];exact wp_load_mid ty x ho b o hx cs d hc hu hd hi (hK _ _ h)
theorem bZ.nil (w:World) (A:Option Addr):bZ w A 0 []:=⟨rfl,by simp [eN],by omega,fun h=>absurd h y2⟩
theorem dE.nil (w:World):dE w ⟨⟨none,0,0⟩,⟨none,0,0⟩⟩ D3:=⟨aL.nil _ _,aL.nil _ _⟩
theorem iB.nil (w:World):iB w ⟨⟨⟨none,0,0⟩,⟨none,0,0⟩⟩,⟨none,0,0⟩⟩ DY:=⟨dE.nil _,aL.nil _ _⟩
theorem FR (M:aY):(eB M).ki=M.ki∧(eB M).fr=M.fr∧(eB M).tt=M.tt∧((eB M).b.tx=M.b.tx∨(eB M).b.tx=[])∧((eB M).h.ba=M.h.ba∨(eB M).h.ba=[])∧((eB M).h.pa=M.h.pa∨(eB M).h.pa=[])∧((eB M).c.h.ba=M.c.h.ba∨(eB M).c.h.ba=[])∧((eB M).c.h.pa=M.c.h.pa∨(eB M).c.h.pa=[])∧((eB M).c.si=M.c.si∨(eB M).c.si=[])∧((eB M).ds=M.ds∨(eB M).ds=[]):=by
 unfold eB EO D3 DY
 (repeat' split)<;>simp
theorem I5 {w:World} {P:bQ} {M:aY} (h:eO w P M):eO w (jX P M) (eB M):=by
 unfold jX eB
 (repeat' split)<;>first
  | exact ⟨h.tx,dE.nil _,iB.nil _,aL.nil _ _⟩
  | exact ⟨bZ.nil _ _,dE.nil _,iB.nil _,aL.nil _ _⟩
  | exact ⟨bZ.nil _ _,h.h,iB.nil _,aL.nil _ _⟩
  | exact ⟨bZ.nil _ _,dE.nil _,h.c,aL.nil _ _⟩
  | exact ⟨bZ.nil _ _,dE.nil _,iB.nil _,h.ds⟩
theorem xG {M:aY} {n:Int} {y:Bool} (h:kI M n=y):y=true↔(hdM M n∧okM M n∧eB M=M):=by rw [←h];exact bJ
theorem sM (d:Int) (y:Bool) (w:World) (hy:fX d=y):Calls prog 36 #[d] w fun e w'=>e=.returned (.bool y)∧w=w':=
 (sN d w).mono fun e w' ⟨h1,h2⟩=>⟨by rw [h1,hy],h2⟩
theorem yH (P:bQ) (M:aY) (n:Int) (w:World) (hp:eO w P M) (hy:¬hdM M n) :
 Calls prog 90 #[M18 P M,n] w fun e w'=>e=.returned (.bool false)∧Below w w w':=by
 obtain ⟨⟨bA,bn,bc⟩,⟨⟨xA,xn,xc⟩,⟨yA,yn,yc⟩⟩,⟨⟨⟨cA,cn,cd⟩,⟨dA,dn,dc⟩⟩,⟨sA,sn,sc⟩⟩,⟨eA,en,ec⟩⟩:=P;obtain ⟨ki,fr,tt,di,b,hh,cc,ds⟩:=M;have HY:Hid (¬(isS n=true∧1≤fr∧fr≤n∧1≤tt∧tt≤n∧fr≠tt)):=ħ hy;clear hp hy;show Calls prog 90 #[.agg (cN ki fr tt di b hh cc bA bn bc xA xn xc yA yn yc cA cn cd dA dn dc sA sn sc eA en ec),n] w fun e w'=>e=.returned (.bool false)∧Below w w w';go_enter func90,ntmps90
 go_upto_region 2 with fail
 refine aW (fun W hW=>?_);have HBM:Hid (Blk W w.heap.size 49 (cN ki fr tt di b hh cc bA bn bc xA xn xc yA yn yc cA cn cd dA dn dc sA sn sc eA en ec)):=ħ (by rw [hW];exact (Blk.new w 49 (cN ki fr tt di b hh cc bA bn bc xA xn xc yA yn yc cA cn cd dA dn dc sA sn sc eA en ec)).up (aB (Below.refl _ _)));have HBX:Hid (Blk W (w.heap.size+1) 49 [ki,fr,tt,z0,z0,z0,n0,z0,z0,n0,n0,z0,z0,n0,n0,z0,n0,n0]):=ħ (by rw [hW];exact Blk.new1 w 49 49 (cN ki fr tt di b hh cc bA bn bc xA xn xc yA yn yc cA cn cd dA dn dc sA sn sc eA en ec) [ki,fr,tt,z0,z0,z0,n0,z0,z0,n0,n0,z0,z0,n0,n0,z0,n0,n0]);have hb0:Below w w W:=by rw [hW];exact aB (aB (Below.refl _ _))
 clear hW;have hsz:w.heap.size+1<W.heap.size:=HBX.out.lt;have m0:W.cell? ⟨w,0,none⟩=some (.int .i64 ki):=HBM.out.box.2 0 _ rfl;have m1:W.cell? ⟨w,1,none⟩=some (.int .i64 fr):=HBM.out.box.2 1 _ rfl;have m2:W.cell? ⟨w,2,none⟩=some (.int .i64 tt):=HBM.out.box.2 2 _ rfl;have m3:W.cell? ⟨w,3,none⟩=some (.int .i64 di):=HBM.out.box.2 3 _ rfl;have x3:W.cell? ⟨w.heap.size+1,3,none⟩=some (.int .i64 0):=HBX.out.box.2 3 _ rfl;have f3:W.frozen? ⟨w.heap.size+1,3,none⟩=false:=HBX.out.frozen 3;refine mn (isS n) fun ys hys=>?_;have HS:=ħ hys;rw [hys] at HY;clear hys;cases ys
 · as_aux_lemma=>
   go_wp2_with (go_at_call 30;(with_reducible refine (fH n _ _ HS.out).mono ?_);rintro e w' ⟨rfl,rfl⟩)
   go_ret
   exact ⟨rfl,aI⟩
 by_cases q0:1≤fr
 rotate_left
 · have b0:decide (fr<1)=true:=by simp;omega
   as_aux_lemma=>
    go_wp2_with (go_at_call 30;(with_reducible refine (fH n _ _ HS.out).mono ?_);rintro e w' ⟨rfl,rfl⟩)
    go_ret
    exact ⟨rfl,aI⟩
 have b0:decide (fr<1)=false:=by simp;omega
 by_cases q1:fr≤n
 rotate_left
 · have b1:decide (n<fr)=true:=by simp;omega
   as_aux_lemma=>
    go_wp2_with (go_at_call 30;(with_reducible refine (fH n _ _ HS.out).mono ?_);rintro e w' ⟨rfl,rfl⟩)
    go_ret
    exact ⟨rfl,aI⟩
 have b1:decide (n<fr)=false:=by simp;omega
 by_cases q2:1≤tt
 rotate_left
 · have b2:decide (tt<1)=true:=by simp;omega
   as_aux_lemma=>
    go_wp2_with (go_at_call 30;(with_reducible refine (fH n _ _ HS.out).mono ?_);rintro e w' ⟨rfl,rfl⟩)
    go_ret
    exact ⟨rfl,aI⟩
 have b2:decide (tt<1)=false:=by simp;omega
 by_cases q3:tt≤n
 rotate_left
 · have b3:decide (n<tt)=true:=by simp;omega
   as_aux_lemma=>
    go_wp2_with (go_at_call 30;(with_reducible refine (fH n _ _ HS.out).mono ?_);rintro e w' ⟨rfl,rfl⟩)
    go_ret
    exact ⟨rfl,aI⟩
 have b3:decide (n<tt)=false:=by simp;omega
 by_cases q4:fr=tt
 · subst q4
   as_aux_lemma=>
    go_wp2_with (go_at_call 30;(with_reducible refine (fH n _ _ HS.out).mono ?_);rintro e w' ⟨rfl,rfl⟩)
    go_ret
    exact ⟨rfl,aI⟩
 exact (HY.out ⟨rfl,q0,q1,q2,q3,q4⟩).elim

theorem zW (P:bQ) (M:aY) (n:Int) (w:World) (hp:eO w P M) (hy:¬hdM M n) :
 Calls prog 94 #[M18 P M,n] w fun e w'=>e=.returned (.bool false)∧Below w w w':=by
 obtain ⟨⟨bA,bn,bc⟩,⟨⟨xA,xn,xc⟩,⟨yA,yn,yc⟩⟩,⟨⟨⟨cA,cn,cd⟩,⟨dA,dn,dc⟩⟩,⟨sA,sn,sc⟩⟩,⟨eA,en,ec⟩⟩:=P;obtain ⟨ki,fr,tt,di,b,hh,cc,ds⟩:=M;have HY:Hid (¬(isS n=true∧1≤fr∧fr≤n∧1≤tt∧tt≤n∧fr≠tt)):=ħ hy;clear hp hy;show Calls prog 94 #[.agg (cN ki fr tt di b hh cc bA bn bc xA xn xc yA yn yc cA cn cd dA dn dc sA sn sc eA en ec),n] w fun e w'=>e=.returned (.bool false)∧Below w w w';go_enter func94,ntmps94
 go_upto_region 1 with fail
 refine aW (fun W hW=>?_);have HBM:Hid (Blk W w.heap.size 49 (cN ki fr tt di b hh cc bA bn bc xA xn xc yA yn yc cA cn cd dA dn dc sA sn sc eA en ec)):=ħ (by rw [hW];exact Blk.new w 49 (cN ki fr tt di b hh cc bA bn bc xA xn xc yA yn yc cA cn cd dA dn dc sA sn sc eA en ec));have hb0:Below w w W:=by rw [hW];exact aB (Below.refl _ _)
 clear hW;have hsz:w.heap.size<W.heap.size:=HBM.out.lt;have m0:W.cell? ⟨w,0,none⟩=some (.int .i64 ki):=HBM.out.box.2 0 _ rfl;have m1:W.cell? ⟨w,1,none⟩=some (.int .i64 fr):=HBM.out.box.2 1 _ rfl;have m2:W.cell? ⟨w,2,none⟩=some (.int .i64 tt):=HBM.out.box.2 2 _ rfl;have m3:W.cell? ⟨w,3,none⟩=some (.int .i64 di):=HBM.out.box.2 3 _ rfl;refine mn (isS n) fun ys hys=>?_;have HS:=ħ hys;rw [hys] at HY;clear hys;cases ys
 · as_aux_lemma=>
   go_wp2_with (go_at_call 71;(with_reducible refine (fK n _ _ HS.out).mono ?_);rintro e w' ⟨rfl,rfl⟩)
   go_ret
   exact ⟨rfl,aI⟩
 by_cases q0:1≤fr
 rotate_left
 · have b0:decide (fr<1)=true:=by simp;omega
   as_aux_lemma=>
    go_wp2_with (go_at_call 71;(with_reducible refine (fK n _ _ HS.out).mono ?_);rintro e w' ⟨rfl,rfl⟩)
    go_ret
    exact ⟨rfl,aI⟩
 have b0:decide (fr<1)=false:=by simp;omega
 by_cases q1:fr≤n
 rotate_left
 · have b1:decide (n<fr)=true:=by simp;omega
   as_aux_lemma=>
    go_wp2_with (go_at_call 71;(with_reducible refine (fK n _ _ HS.out).mono ?_);rintro e w' ⟨rfl,rfl⟩)
    go_ret
    exact ⟨rfl,aI⟩
 have b1:decide (n<fr)=false:=by simp;omega
 by_cases q2:1≤tt
 rotate_left
 · have b2:decide (tt<1)=true:=by simp;omega
   as_aux_lemma=>
    go_wp2_with (go_at_call 71;(with_reducible refine (fK n _ _ HS.out).mono ?_);rintro e w' ⟨rfl,rfl⟩)
    go_ret
    exact ⟨rfl,aI⟩
 have b2:decide (tt<1)=false:=by simp;omega
 by_cases q3:tt≤n
 rotate_left
 · have b3:decide (n<tt)=true:=by simp;omega
   as_aux_lemma=>
    go_wp2_with (go_at_call 71;(with_reducible refine (fK n _ _ HS.out).mono ?_);rintro e w' ⟨rfl,rfl⟩)
    go_ret
    exact ⟨rfl,aI⟩
 have b3:decide (n<tt)=false:=by simp;omega
 by_cases q4:fr=tt
 · subst q4
   as_aux_lemma=>
    go_wp2_with (go_at_call 71;(with_reducible refine (fK n _ _ HS.out).mono ?_);rintro e w' ⟨rfl,rfl⟩)
    go_ret
    exact ⟨rfl,aI⟩
 exact (HY.out ⟨rfl,q0,q1,q2,q3,q4⟩).elim
end Go.Proofs.YtgfakefcmbpboaaGreat
