/- Part 4 of what WorkerExact leans on. No conditions. -/
import Derived.Test.YtgfakefcmbpboaaGreatV3
namespace Go.Proofs.YtgfakefcmbpboaaGreat
set_option linter.all false
set_option maxRecDepth 100000
set_option maxHeartbeats 64000000
open _root_.Go.Proofs.Tryz Go.RowKit
section
open Go.RowKit Go.ChangeShapes Go.WideShapes Go.ChangeAt
structure aV where
 di:Int
 ak:List Int
deriving Inhabited
def wth (l:List aV) (i:Nat):aV:=l.getD i default
def eC (w:World) (A:Option Addr) (n:Nat) (l:List aV):Prop:=
 l.length=n∧n≤9223372036854775807∧(0<n→∃b off,A=some ⟨b,off,none⟩∧b<w.heap.size∧∀j,j<n→∃(B:Option Addr) (m d:Nat),(w.cell? ⟨b,off+j*2,none⟩=some (.int .i64 (wth l j).di)∧w.cell? ⟨b,off+j*2+1,none⟩=some (.slice B m d))∧aL w B m (wth l j).ak)
theorem eC.up {w w':World} {A n l} (h:eC w A n l) (hb:Below w w w'):eC w' A n l:=by
 obtain ⟨h1,h2,h3⟩:=h;refine ⟨h1,h2,fun hn=>?_⟩;obtain ⟨b,off,e,hlt,hc⟩:=h3 hn;refine ⟨b,off,e,Nat.lt_of_lt_of_le hlt hb.size,fun j hj=>?_⟩;obtain ⟨B,m,d,⟨g0,g1⟩,g4⟩:=hc j hj;have g:=(aK hb).1;exact ⟨B,m,d,⟨(g _ _ hlt).trans g0,(g _ _ hlt).trans g1⟩,g4.up hb⟩
structure aD where
 id:Int
 nodes:Int
 next:Int
 op:List TxD
 age:Int
 clock:Int
 wa:List aV
 he:List bI
 re:List Int
structure aF where
 op:SlP
 wa:SlP
 he:SlP
 re:SlP
def aF.val (P:aF) (D:aD):Value:=.agg #[.int .i64 D.id,.int .i64 D.nodes,.int .i64 D.next,.slice P.op.A P.op.n P.op.c,.int .i64 D.age,.int .i64 D.clock,.slice P.wa.A P.wa.n P.wa.c,.slice P.he.A P.he.n P.he.c,.slice P.re.A P.re.n P.re.c]
structure bG (w:World) (P:aF) (D:aD):Prop where
 op:bZ w P.op.A P.op.n D.op
 wa:eC w P.wa.A P.wa.n D.wa
 he:dU w P.he.A P.he.n D.he
 re:aL w P.re.A P.re.n D.re
 oc:P.op.n≤P.op.c
 om:P.op.c≤9223372036854775807
 rc:P.re.n≤P.re.c
theorem bG.up {w w':World} {P D} (h:bG w P D) (hb:Below w w w'):bG w' P D:={h with op:=h.op.up hb,wa:=h.wa.up hb,he:=h.he.up hb,re:=h.re.up hb}
structure aY where
 ki:Int
 fr:Int
 tt:Int
 di:Int
 b:bY
 h:eG
 c:mG
 ds:List Int
instance:Inhabited aY:=⟨⟨0,0,0,0,default,default,default,[]⟩⟩
structure bQ where
 b:SlP
 h:lM
 c:BL
 ds:SlP
instance:Inhabited bQ:=⟨⟨default,default,default,default⟩⟩
def dB (P:bQ) (M:aY):List Value:=[.int .i64 M.ki,.int .i64 M.fr,.int .i64 M.tt,.int .i64 M.di,.int .i64 M.b.au,.int .i64 M.b.n,.slice P.b.A P.b.n P.b.c,.int .i64 M.h.au,.int .i64 M.h.ro,.slice P.h.b.A P.h.b.n P.h.b.c,.slice P.h.p.A P.h.p.n P.h.p.c,.int .i64 M.c.h.au,.int .i64 M.c.h.ro,.slice P.c.h.b.A P.c.h.b.n P.c.h.b.c,.slice P.c.h.p.A P.c.h.p.n P.c.h.p.c,.int .i64 M.c.di,.slice P.c.s.A P.c.s.n P.c.s.c,.slice P.ds.A P.ds.n P.ds.c]
structure eO (w:World) (P:bQ) (M:aY):Prop where
 tx:bZ w P.b.A P.b.n M.b.tx
 h:dE w P.h M.h
 c:iB w P.c M.c
 ds:aL w P.ds.A P.ds.n M.ds
theorem eO.up {w w':World} {P M} (h:eO w P M) (hb:Below w w w'):eO w' P M:=⟨h.tx.up hb,h.h.up hb,h.c.up hb,h.ds.up hb⟩
structure kF where
 doo:Int
 d:Int
 t:TxD
 m:aY
 fit:Bool
 l:List Int
instance:Inhabited kF:=⟨⟨0,0,default,default,false,[]⟩⟩
def jth (l:List kF) (i:Nat):kF:=l.getD i default
def jW (P:bQ) (S:SlP) (a:kF):List Value:=[.int .i64 a.doo,.int .i64 a.d,.int .i64 a.t.se,.int .i64 a.t.sq,.string a.t.k,.string a.t.v,
 .int .i64 a.m.ki,.int .i64 a.m.fr,.int .i64 a.m.tt,.int .i64 a.m.di,.int .i64 a.m.b.au,.int .i64 a.m.b.n,.slice P.b.A P.b.n P.b.c,.int .i64 a.m.h.au,.int .i64 a.m.h.ro,.slice P.h.b.A P.h.b.n P.h.b.c,.slice P.h.p.A P.h.p.n P.h.p.c,.int .i64 a.m.c.h.au,.int .i64 a.m.c.h.ro,.slice P.c.h.b.A P.c.h.b.n P.c.h.b.c,.slice P.c.h.p.A P.c.h.p.n P.c.h.p.c,.int .i64 a.m.c.di,.slice P.c.s.A P.c.s.n P.c.s.c,.slice P.ds.A P.ds.n P.ds.c,
 .bool a.fit,.slice S.A S.n S.c]
theorem zC (P:bQ) (S:SlP) (a:kF):jW P S a=.int .i64 a.doo :: .int .i64 a.d :: (kH a.t ++ dB P a.m ++ [.bool a.fit,.slice S.A S.n S.c]):=rfl
def BM (w:World) (A:Option Addr) (n:Nat) (l:List kF):Prop:=
 l.length=n∧n≤9223372036854775807∧(0<n→∃b off,A=some ⟨b,off,none⟩∧b<w.heap.size∧∀j,j<n→∃(P:bQ) (S:SlP),(∀r u,(jW P S (jth l j))[r]? =some u→w.cell? ⟨b,off+j*26+r,none⟩=some u)∧eO w P (jth l j).m∧aL w S.A S.n (jth l j).l)
theorem BM.up {w w':World} {A n l} (h:BM w A n l) (hb:Below w w w'):BM w' A n l:=by
 obtain ⟨h1,h2,h3⟩:=h;refine ⟨h1,h2,fun hn=>?_⟩;obtain ⟨b,off,e,hlt,hc⟩:=h3 hn;refine ⟨b,off,e,Nat.lt_of_lt_of_le hlt hb.size,fun j hj=>?_⟩;obtain ⟨P,S,g0,g1,g2⟩:=hc j hj;exact ⟨P,S,fun r u hu=>((aK hb).1 _ _ hlt).trans (g0 r u hu),g1.up hb,g2.up hb⟩
structure SmM (M:aY):Prop where
 b:SmB M.b
 h1:M.h.ba.length≤17592186044416
 h2:M.h.pa.length≤17592186044416
 c1:M.c.h.ba.length≤17592186044416
 c2:M.c.h.pa.length≤17592186044416
 c3:M.c.si.length≤17592186044416
 ds:M.ds.length≤17592186044416
structure SmJ (a:kF):Prop where
 t:SmX a.t
 m:SmM a.m
 l:a.l.length≤17592186044416
def SmW (x:aV):Prop:=x.ak.length≤17592186044416
structure uN where
 w:aF
 l:SlP
structure wN where
 w:aD
 l:List kF
def uN.val (P:uN) (D:wN):Value:=.agg #[.int .i64 D.w.id,.int .i64 D.w.nodes,.int .i64 D.w.next,.slice P.w.op.A P.w.op.n P.w.op.c,.int .i64 D.w.age,.int .i64 D.w.clock,.slice P.w.wa.A P.w.wa.n P.w.wa.c,.slice P.w.he.A P.w.he.n P.w.he.c,.slice P.w.re.A P.w.re.n P.w.re.c,.slice P.l.A P.l.n P.l.c]
structure AD (w:World) (P:uN) (D:wN):Prop where
 wk:bG w P.w D.w
 l:BM w P.l.A P.l.n D.l
 so:P.w.op.n≤17592186044416
 sw:P.w.wa.n≤17592186044416
 sh:P.w.he.n≤17592186044416
 sr:P.w.re.n≤17592186044416
 sl:P.l.n≤17592186044416
 go:∀v∈D.w.op,SmX v
 gw:∀v∈D.w.wa,SmW v
 gh:∀v∈D.w.he,SmH v
 gl:∀v∈D.l,SmJ v
theorem AD.up {w w':World} {P:uN} {D:wN} (h:AD w P D) (hb:Below w w w'):AD w' P D:={h with wk:=h.wk.up hb,l:=h.l.up hb}
section
variable {H:Type} {enc:TypeId×Value→H} {w:World} {base:Nat} {spare:Nat→Bool} {held:Bool}
theorem DX:prog.cellsOf 56=2:=by kernel_rfl
theorem sF:prog.cellsOf 23=1:=by kernel_rfl
theorem wQ:prog.cellsOf 27=9:=by kernel_rfl
theorem fW:prog.cellsOf 45=4:=by kernel_rfl
theorem vB:prog.cellsOf 47=6:=by kernel_rfl
theorem tW:prog.cellsOf 49=18:=by kernel_rfl
theorem AK:prog.cellsOf 4=1:=by kernel_rfl
theorem EV:prog.cellsOf 51=26:=by kernel_rfl
theorem DV:prog.cellsOf 28=1:=by kernel_rfl
theorem DW:prog.cellsOf 30=10:=by kernel_rfl
theorem DT:prog.bytesOf 56=32:=by kernel_rfl
theorem ES:prog.bytesOf 51=352:=by kernel_rfl
theorem Fp {P:Program} {t:TypeId} {fuel:Nat} {cs:List Value} {x:DataW H×List MemPlace} (ht:P.underlying t=some .bool) (h:DataW.trod enc P w base spare held fuel t cs=some x):∃z,cs=[.bool z]:=by
 cases fuel with
 | zero=>simp [DataW.trod] at h
 | succ n=>
  simp only [DataW.trod,ht] at h;split at h<;>simp_all
theorem I3 {α:Type} {l:List α} (h:l.length=6):∃a0 a1 a2 a3 a4 a5,l=[a0,a1,a2,a3,a4,a5]:=by
 match l,h with
 | [a0,a1,a2,a3,a4,a5],_=>exact ⟨a0,a1,a2,a3,a4,a5,rfl⟩
theorem JA {α:Type} {l:List α} (h:l.length=8):∃a0 a1 a2 a3 a4 a5 a6 a7,l=[a0,a1,a2,a3,a4,a5,a6,a7]:=by
 match l,h with
 | [a0,a1,a2,a3,a4,a5,a6,a7],_=>exact ⟨a0,a1,a2,a3,a4,a5,a6,a7,rfl⟩
theorem I4 {α:Type} {l:List α} (h:l.length=9):∃a0 a1 a2 a3 a4 a5 a6 a7 a8,l=[a0,a1,a2,a3,a4,a5,a6,a7,a8]:=by
 match l,h with
 | [a0,a1,a2,a3,a4,a5,a6,a7,a8],_=>exact ⟨a0,a1,a2,a3,a4,a5,a6,a7,a8,rfl⟩
theorem Ji {α:Type} {l:List α} (h:l.length=10):∃a0 a1 a2 a3 a4 a5 a6 a7 a8 a9,l=[a0,a1,a2,a3,a4,a5,a6,a7,a8,a9]:=by
 match l,h with
 | [a0,a1,a2,a3,a4,a5,a6,a7,a8,a9],_=>exact ⟨a0,a1,a2,a3,a4,a5,a6,a7,a8,a9,rfl⟩
theorem Jj {α:Type} {l:List α} (h:l.length=18):∃a0 a1 a2 a3 a4 a5 a6 a7 a8 a9 b0 b1 b2 b3 b4 b5 b6 b7,l=[a0,a1,a2,a3,a4,a5,a6,a7,a8,a9,b0,b1,b2,b3,b4,b5,b6,b7]:=by
 match l,h with
 | [a0,a1,a2,a3,a4,a5,a6,a7,a8,a9,b0,b1,b2,b3,b4,b5,b6,b7],_=>exact ⟨_,_,_,_,_,_,_,_,_,_,_,_,_,_,_,_,_,_,rfl⟩
theorem Jk {α:Type} {l:List α} (h:l.length=26):∃a0 a1 a2 a3 a4 a5 a6 a7 a8 a9 b0 b1 b2 b3 b4 b5 b6 b7 b8 b9 c0 c1 c2 c3 c4 c5,l=[a0,a1,a2,a3,a4,a5,a6,a7,a8,a9,b0,b1,b2,b3,b4,b5,b6,b7,b8,b9,c0,c1,c2,c3,c4,c5]:=by
 match l,h with
 | [a0,a1,a2,a3,a4,a5,a6,a7,a8,a9,b0,b1,b2,b3,b4,b5,b6,b7,b8,b9,c0,c1,c2,c3,c4,c5],_=>exact ⟨_,_,_,_,_,_,_,_,_,_,_,_,_,_,_,_,_,_,_,_,_,_,_,_,_,_,rfl⟩
theorem xH {fuel:Nat} {cs:List Value} {x:DataW H×List MemPlace} (h:DataW.trod enc prog w base spare held fuel 45 cs=some x) (hw:Wok 45 x.1) :
 ∃(p:lM) (D:eG),cs=[.int .i64 D.au,.int .i64 D.ro,.slice p.b.A p.b.n p.b.c,.slice p.p.A p.p.n p.p.c]∧dE w p D∧D.ba.length≤17592186044416∧D.pa.length≤17592186044416:=by
 obtain ⟨xs,n,_,hx,hl,hlen,hf⟩:=DataW.trod_struct underlying45 h;rw [hx] at hw;rw [fW] at hl;obtain ⟨v0,v1,v2,v3,rfl⟩:=Db hl;obtain ⟨y0,y1,y2,y3,rfl⟩:=Db hlen;have f0:DataW.trod enc prog w base spare held n 3 [v0]=some y0:=by simpa [bC] using hf 0 _ rfl
 have f1:DataW.trod enc prog w base spare held n 3 [v1]=some y1:=by simpa [bC] using hf 1 _ rfl
 have f2:DataW.trod enc prog w base spare held n 25 [v2]=some y2:=by simpa [iJ] using hf 2 _ rfl
 have f3:DataW.trod enc prog w base spare held n 25 [v3]=some y3:=by simpa [iJ] using hf 3 _ rfl
 obtain ⟨z0,e0⟩:=dN f0;obtain ⟨z1,e1⟩:=dN f1;obtain ⟨A2,n2,c2,l2,e2,r2,s2,-⟩:=iK f2 (hw.field underlying45 (i:=2) rfl rfl);obtain ⟨A3,n3,c3,l3,e3,r3,s3,-⟩:=iK f3 (hw.field underlying45 (i:=3) rfl rfl);injection e0 with e0;injection e1 with e1;injection e2 with e2;injection e3 with e3;subst e0;subst e1;subst e2;subst e3;exact ⟨⟨⟨A2,n2,c2⟩,⟨A3,n3,c3⟩⟩,⟨z0,z1,l2,l3⟩,rfl,⟨r2,r3⟩,by show l2.length≤_;rw [r2.1];exact s2,by show l3.length≤_;rw [r3.1];exact s3⟩
theorem D9 {fuel:Nat} {cs:List Value} {x:DataW H×List MemPlace} (h:DataW.trod enc prog w base spare held fuel 47 cs=some x) (hw:Wok 47 x.1) :
 ∃(p:BL) (D:mG),cs=[.int .i64 D.h.au,.int .i64 D.h.ro,.slice p.h.b.A p.h.b.n p.h.b.c,.slice p.h.p.A p.h.p.n p.h.p.c,.int .i64 D.di,.slice p.s.A p.s.n p.s.c]∧iB w p D∧D.h.ba.length≤17592186044416∧D.h.pa.length≤17592186044416∧D.si.length≤17592186044416:=by
 obtain ⟨xs,n,_,hx,hl,hlen,hf⟩:=DataW.trod_struct underlying47 h;rw [hx] at hw;rw [vB] at hl;obtain ⟨v0,v1,v2,v3,v4,v5,rfl⟩:=I3 hl;obtain ⟨y0,y1,y2,rfl⟩:=FN hlen;have f0:DataW.trod enc prog w base spare held n 45 [v0,v1,v2,v3]=some y0:=by simpa [fW] using hf 0 _ rfl
 have f1:DataW.trod enc prog w base spare held n 3 [v4]=some y1:=by simpa [bC,fW] using hf 1 _ rfl
 have f2:DataW.trod enc prog w base spare held n 25 [v5]=some y2:=by simpa [iJ,bC,fW] using hf 2 _ rfl
 obtain ⟨p0,d0,e0,r0,s01,s02⟩:=xH f0 (hw.field underlying47 (i:=0) rfl rfl);obtain ⟨z1,e1⟩:=dN f1;obtain ⟨A2,n2,c2,l2,e2,r2,s2,-⟩:=iK f2 (hw.field underlying47 (i:=2) rfl rfl);injection e1 with e1;injection e2 with e2;subst e1;subst e2;simp only [List.cons.injEq,and_true] at e0;obtain ⟨rfl,rfl,rfl,rfl⟩:=e0;exact ⟨⟨p0,⟨A2,n2,c2⟩⟩,⟨d0,z1,l2⟩,rfl,⟨r0,r2⟩,s01,s02,by show l2.length≤_;rw [r2.1];exact s2⟩
theorem Fa {fuel:Nat} {cs:List Value} {x:DataW H×List MemPlace} (h:DataW.trod enc prog w base spare held fuel 49 cs=some x) (hw:Wok 49 x.1) :
 ∃(P:bQ) (M:aY),cs=dB P M∧eO w P M∧SmM M:=by
 obtain ⟨xs,n,_,hx,hl,hlen,hf⟩:=DataW.trod_struct underlying49 h;rw [hx] at hw;rw [tW] at hl;obtain ⟨a0,a1,a2,a3,a4,a5,a6,a7,a8,a9,b0,b1,b2,b3,b4,b5,b6,b7,rfl⟩:=Jj hl;obtain ⟨y0,y1,y2,y3,y4,y5,y6,y7,rfl⟩:=JA hlen;have f0:DataW.trod enc prog w base spare held n 3 [a0]=some y0:=by simpa [bC] using hf 0 _ rfl
 have f1:DataW.trod enc prog w base spare held n 3 [a1]=some y1:=by simpa [bC] using hf 1 _ rfl
 have f2:DataW.trod enc prog w base spare held n 3 [a2]=some y2:=by simpa [bC] using hf 2 _ rfl
 have f3:DataW.trod enc prog w base spare held n 3 [a3]=some y3:=by simpa [bC] using hf 3 _ rfl
 have f4:DataW.trod enc prog w base spare held n 43 [a4,a5,a6]=some y4:=by simpa [bC,iM] using hf 4 _ rfl
 have f5:DataW.trod enc prog w base spare held n 45 [a7,a8,a9,b0]=some y5:=by simpa [bC,iM,fW] using hf 5 _ rfl
 have f6:DataW.trod enc prog w base spare held n 47 [b1,b2,b3,b4,b5,b6]=some y6:=by simpa [bC,iM,fW,vB] using hf 6 _ rfl
 have f7:DataW.trod enc prog w base spare held n 25 [b7]=some y7:=by simpa [bC,iM,fW,vB,iJ] using hf 7 _ rfl
 obtain ⟨z0,e0⟩:=dN f0;obtain ⟨z1,e1⟩:=dN f1;obtain ⟨z2,e2⟩:=dN f2;obtain ⟨z3,e3⟩:=dN f3;obtain ⟨bt,A,m,c,e4,r4,s4⟩:=zE f4 (hw.field underlying49 (i:=4) (f:=43) rfl rfl);obtain ⟨hp,hd,e5,r5,s51,s52⟩:=xH f5 (hw.field underlying49 (i:=5) (f:=45) rfl rfl);obtain ⟨cp,cd,e6,r6,s61,s62,s63⟩:=D9 f6 (hw.field underlying49 (i:=6) (f:=47) rfl rfl);obtain ⟨A7,n7,c7,l7,e7,r7,s7,-⟩:=iK f7 (hw.field underlying49 (i:=7) (f:=25) rfl rfl);simp only [List.cons.injEq,and_true] at e0 e1 e2 e3 e4 e5 e6 e7;obtain ⟨rfl,rfl,rfl⟩:=e4;obtain ⟨rfl,rfl,rfl,rfl⟩:=e5;obtain ⟨rfl,rfl,rfl,rfl,rfl,rfl⟩:=e6;subst e0;subst e1;subst e2;subst e3;subst e7;exact ⟨⟨⟨A,m,c⟩,hp,cp,⟨A7,n7,c7⟩⟩,⟨z0,z1,z2,z3,bt,hd,cd,l7⟩,rfl,⟨r4,r5,r6,r7⟩,⟨s4,s51,s52,s61,s62,s63,by show l7.length≤_;rw [r7.1];exact s7⟩⟩
theorem Dk {fuel:Nat} {cs:List Value} {x:DataW H×List MemPlace} (h:DataW.trod enc prog w base spare held fuel 23 cs=some x) (hw:Wok 23 x.1):∃A n c l,cs=[.slice A n c]∧eC w A n l∧n≤17592186044416∧∀v∈l,SmW v:=by
 obtain ⟨A,n,c,l,e,h1,h2,h3,h4,h5⟩:=vF (α:=aV) (k:=2) (kb:=32) (G:=SmW) (R:=fun cs v=>∃(B:Option Addr) (m d:Nat),cs=[.int .i64 v.di,.slice B m d]∧aL w B m v.ak) y2 y2 underlying23 DX DT (fun fuel cs x h hw hl=>by
  obtain ⟨v0,v1,rfl⟩:=EB hl;obtain ⟨xs,n,_,hx,hl',hlen,hf⟩:=DataW.trod_struct underlying56 h;rw [hx] at hw;obtain ⟨y0,y1,rfl⟩:=EB hlen;have f0:DataW.trod enc prog w base spare held n 3 [v0]=some y0:=by simpa [bC] using hf 0 _ rfl
  have f1:DataW.trod enc prog w base spare held n 25 [v1]=some y1:=by simpa [bC,iJ] using hf 1 _ rfl
  obtain ⟨z0,e0⟩:=dN f0;obtain ⟨B,m,d,l1,e1,r1,s1,-⟩:=iK f1 (hw.field underlying56 (i:=1) (f:=25) rfl rfl);injection e0 with e0;injection e1 with e1;subst e0;subst e1;exact ⟨⟨z0,l1⟩,⟨B,m,d,rfl,r1⟩,by show l1.length≤_;rw [r1.1];exact s1⟩) h hw
 refine ⟨A,n,c,l,e,⟨h1,h2,fun hn=>?_⟩,by omega,h4⟩;obtain ⟨b,off,e2,hb,hc⟩:=h5 hn;refine ⟨b,off,e2,hb,fun j hj=>?_⟩;obtain ⟨cs',_,⟨B,m,d,rfl,ht⟩,hat⟩:=hc j hj;exact ⟨B,m,d,⟨hat 0 _ rfl,hat 1 _ rfl⟩,ht⟩
theorem Ee {fuel:Nat} {cs:List Value} {x:DataW H×List MemPlace} (h:DataW.trod enc prog w base spare held fuel 28 cs=some x) (hw:Wok 28 x.1):∃A n c l,cs=[.slice A n c]∧BM w A n l∧n≤17592186044416∧∀v∈l,SmJ v:=by
 obtain ⟨A,n,c,l,e,h1,h2,h3,h4,h5⟩:=vF (α:=kF) (k:=26) (kb:=352) (G:=SmJ) (R:=fun cs v=>∃(P:bQ) (S:SlP),cs=jW P S v∧eO w P v.m∧aL w S.A S.n v.l) y2 y2 underlying28 EV ES (fun fuel cs x h hw hl=>by
  obtain ⟨a0,a1,a2,a3,a4,a5,a6,a7,a8,a9,b0,b1,b2,b3,b4,b5,b6,b7,b8,b9,c0,c1,c2,c3,c4,c5,rfl⟩:=Jk hl;obtain ⟨xs,n,_,hx,hl',hlen,hf⟩:=DataW.trod_struct underlying51 h;rw [hx] at hw;obtain ⟨y0,y1,y2,y3,y4,y5,rfl⟩:=I3 hlen;have f0:DataW.trod enc prog w base spare held n 3 [a0]=some y0:=by simpa [bC] using hf 0 _ rfl
  have f1:DataW.trod enc prog w base spare held n 3 [a1]=some y1:=by simpa [bC] using hf 1 _ rfl
  have f2:DataW.trod enc prog w base spare held n 41 [a2,a3,a4,a5]=some y2:=by simpa [bC,mK] using hf 2 _ rfl
  have f3:DataW.trod enc prog w base spare held n 49 [a6,a7,a8,a9,b0,b1,b2,b3,b4,b5,b6,b7,b8,b9,c0,c1,c2,c3]=some y3:=by simpa [bC,mK,tW] using hf 3 _ rfl
  have f4:DataW.trod enc prog w base spare held n 4 [c4]=some y4:=by simpa [bC,mK,tW,AK] using hf 4 _ rfl
  have f5:DataW.trod enc prog w base spare held n 25 [c5]=some y5:=by simpa [bC,mK,tW,AK,iJ] using hf 5 _ rfl
  obtain ⟨z0,e0⟩:=dN f0;obtain ⟨z1,e1⟩:=dN f1;obtain ⟨z2,e2,s2⟩:=AZ f2 (hw.field underlying51 (i:=2) (f:=41) rfl rfl);obtain ⟨P,M,e3,r3,s3⟩:=Fa f3 (hw.field underlying51 (i:=3) (f:=49) rfl rfl);obtain ⟨z4,e4⟩:=Fp underlying4 f4;obtain ⟨B,m,d,l5,e5,r5,s5,-⟩:=iK f5 (hw.field underlying51 (i:=5) (f:=25) rfl rfl);injection e0 with e0;injection e1 with e1;injection e4 with e4;injection e5 with e5;subst e0;subst e1;subst e4;subst e5;refine ⟨⟨z0,z1,z2,M,z4,l5⟩,⟨P,⟨B,m,d⟩,?_,r3,r5⟩,⟨s2,s3,by show l5.length≤_;rw [r5.1];exact s5⟩⟩;rw [zC,← e2,← e3];rfl) h hw
 refine ⟨A,n,c,l,e,⟨h1,h2,fun hn=>?_⟩,by omega,h4⟩;obtain ⟨b,off,e2,hb,hc⟩:=h5 hn;refine ⟨b,off,e2,hb,fun j hj=>?_⟩;obtain ⟨cs',_,⟨P,S,rfl,r1,r2⟩,hat⟩:=hc j hj;exact ⟨P,S,fun r u hu=>hat r u hu,r1,r2⟩
theorem E9 {r:Reach} {b0:Nat} {v:Value} {d:DataW H} {p:List MemPlace} (hv:Value.okWide prog w r b0 30 v) (h:DataW.Trod enc prog w base spare held 30 v d p) (hw:Wok 30 d) :
 ∃(P:uN) (D:wN),v=P.val D∧AD w P D:=by
 obtain ⟨cs,rfl,hsz⟩:=okWide_struct underlying30 hv;obtain ⟨l⟩:=cs;rw [DW] at hsz;obtain ⟨v0,v1,v2,v3,v4,v5,v6,v7,v8,v9,rfl⟩:=Ji hsz;obtain ⟨fuel,hfu⟩:=h;obtain ⟨xs,n,_,hx,hl,hlen,hf⟩:=DataW.trod_struct underlying30 hfu;have hx2:=congrArg Prod.fst hx;dsimp only at hx2;rw [hx2] at hw;obtain ⟨y0,y1,rfl⟩:=EB hlen;have f0:DataW.trod enc prog w base spare held n 27 [v0,v1,v2,v3,v4,v5,v6,v7,v8]=some y0:=by simpa [wQ,Value.cells] using hf 0 _ rfl
 have f1:DataW.trod enc prog w base spare held n 28 [v9]=some y1:=by simpa [wQ,DV,Value.cells] using hf 1 _ rfl
 have w0:=hw.field underlying30 (i:=0) (f:=27) rfl rfl;have w1:=hw.field underlying30 (i:=1) (f:=28) rfl rfl;obtain ⟨xe,ne,_,hxe,hle,hlene,hfe⟩:=DataW.trod_struct underlying27 f0;obtain ⟨x0,x1,x2,x3,x4,x5,x6,x7,x8,rfl⟩:=I4 hlene;rw [hxe] at w0;dsimp only at w0;have g0:DataW.trod enc prog w base spare held ne 3 [v0]=some x0:=by simpa [bC] using hfe 0 _ rfl
 have g1:DataW.trod enc prog w base spare held ne 3 [v1]=some x1:=by simpa [bC] using hfe 1 _ rfl
 have g2:DataW.trod enc prog w base spare held ne 3 [v2]=some x2:=by simpa [bC] using hfe 2 _ rfl
 have g3:DataW.trod enc prog w base spare held ne 22 [v3]=some x3:=by simpa [bC,jI] using hfe 3 _ rfl
 have g4:DataW.trod enc prog w base spare held ne 3 [v4]=some x4:=by simpa [bC,jI] using hfe 4 _ rfl
 have g5:DataW.trod enc prog w base spare held ne 3 [v5]=some x5:=by simpa [bC,jI] using hfe 5 _ rfl
 have g6:DataW.trod enc prog w base spare held ne 23 [v6]=some x6:=by simpa [bC,jI,sF] using hfe 6 _ rfl
 have g7:DataW.trod enc prog w base spare held ne 24 [v7]=some x7:=by simpa [bC,jI,sF,yU] using hfe 7 _ rfl
 have g8:DataW.trod enc prog w base spare held ne 25 [v8]=some x8:=by simpa [bC,jI,sF,yU,iJ] using hfe 8 _ rfl
 obtain ⟨z0,e0⟩:=dN g0;obtain ⟨z1,e1⟩:=dN g1;obtain ⟨z2,e2⟩:=dN g2;obtain ⟨A3,n3,c3,l3,e3,a1,a2,a3,a4,a5,a6⟩:=vG (e:=kH) (G:=SmX) gQ y2 underlying22 mK CQ (fun _ _ _ h hw=>AZ h hw) g3 (w0.field underlying27 (i:=3) (f:=22) rfl rfl);obtain ⟨z4,e4⟩:=dN g4;obtain ⟨z5,e5⟩:=dN g5;obtain ⟨A6,n6,c6,l6,e6,r6,s6,t6⟩:=Dk g6 (w0.field underlying27 (i:=6) (f:=23) rfl rfl);obtain ⟨A7,n7,c7,l7,e7,r7,s7,t7⟩:=Dj g7 (w0.field underlying27 (i:=7) (f:=24) rfl rfl);obtain ⟨A8,n8,c8,l8,e8,r8,s8,t8⟩:=iK g8 (w0.field underlying27 (i:=8) (f:=25) rfl rfl);obtain ⟨A9,n9,c9,l9,e9,r9,s9,t9⟩:=Ee f1 w1;simp only [List.cons.injEq,and_true] at e0 e1 e2 e3 e4 e5 e6 e7 e8 e9;subst e0;subst e1;subst e2;subst e3;subst e4;subst e5;subst e6;subst e7;subst e8;subst e9
 exact ⟨⟨⟨⟨A3,n3,c3⟩,⟨A6,n6,c6⟩,⟨A7,n7,c7⟩,⟨A8,n8,c8⟩⟩,⟨A9,n9,c9⟩⟩,⟨⟨z0,z1,z2,l3,z4,z5,l6,l7,l8⟩,l9⟩,rfl,
  {wk:={op:=⟨a1,a2⟩,wa:=r6,he:=r7,re:=r8,oc:=a3,om:=a4,rc:=t8},l:=r9,so:=by show n3≤_;omega,sw:=s6,sh:=s7,sr:=s8,sl:=s9,go:=a6,gw:=t6,gh:=t7,gl:=t9}⟩
end
end
end Go.Proofs.YtgfakefcmbpboaaGreat
