/- Exec at the reference: copies, the same, Push. -/
import Derived.Test.YtbakkpabiknlmaaGreatSyEf
namespace Go.Proofs.YtbakkpabiknlmaaGreat
open Go.RowKit
set_option linter.unusedSimpArgs false
set_option linter.unusedVariables false

set_option maxRecDepth 100000 in
set_option maxHeartbeats 4000000 in
theorem ref0_CopyExec (pA qA sA : Option Addr) (pn pc qn qc sn sc : Nat) (p : List PairD) (q : List AcctD) (s : List Int) (c : Int) (w : World) (hp : PairsR w pA pn p) (hq : AcctsR w qA qn q) (hs : IntsR w sA sn s) (h1 : pn ≤ 800000000) (h2 : qn ≤ 800000000) (h3 : sn ≤ 800000000) :
    Calls Tryz.prog 5 #[.agg #[.slice pA pn pc, .slice qA qn qc, .slice sA sn sc, .int .i64 c]] w fun e w' => ∃ vp va vs, e = .returned (.agg #[vp, va, vs, .int .i64 c]) ∧ ExO w' w.heap.size vp va vs p q s ∧ Below w.heap.size w w' := by
  have HP := Lib.hid hp
  have HQ := Lib.hid hq
  have HS := Lib.hid hs
  clear hp hq hs
  go_enter Tryz.func5, Tryz.ntmps5
  go_wp2_with fail
  refine (ref0_CopyTable pA pn pc p qA qn qc q _ (HP.out.up (by (repeat (first | (with_reducible exact Below.refl _ _) | (with_reducible assumption) | (with_reducible apply bel_alloc) | (with_reducible apply bel_drew) | (with_reducible apply bel_drewN) | (with_reducible refine bel_trans ?_ (by with_reducible assumption)) | (with_reducible refine bel_trans ?_ (HF.out _)) | ((with_reducible refine bel_set3 ?_ ?_); rotate_left; omega))))) (HQ.out.up (by (repeat (first | (with_reducible exact Below.refl _ _) | (with_reducible assumption) | (with_reducible apply bel_alloc) | (with_reducible apply bel_drew) | (with_reducible apply bel_drewN) | (with_reducible refine bel_trans ?_ (by with_reducible assumption)) | (with_reducible refine bel_trans ?_ (HF.out _)) | ((with_reducible refine bel_set3 ?_ ?_); rotate_left; omega))))) h1 h2).mono ?_
  rintro e w1 ⟨vp, va, rfl, hp1, ha1, hd1, hb1⟩
  obtain ⟨Ap, cp, rfl, _⟩ := nmP hp1 HP.out.1 (by omega)
  obtain ⟨Aa, ca, rfl, _⟩ := nmA ha1 HQ.out.1 (by omega)
  have HP1 := Lib.hid hp1
  have HA1 := Lib.hid ha1
  clear hp1 ha1
  have hz_w1 : w.heap.size + 3 ≤ w1.heap.size := (by have hq := (hb1).size; (try simp at hq); omega); have hc0_w1 := fun o => (bcell hb1).1 (w.heap.size) o (by first | (simp; done) | (simp; omega) | omega); have hc1_w1 := fun o => (bcell hb1).1 (w.heap.size + 1) o (by first | (simp; done) | (simp; omega) | omega); have hc2_w1 := fun o => (bcell hb1).1 (w.heap.size + 2) o (by first | (simp; done) | (simp; omega) | omega); have hf0_w1 := fun o => (bcell hb1).2 (w.heap.size) o (by first | (simp; done) | (simp; omega) | omega); have hf1_w1 := fun o => (bcell hb1).2 (w.heap.size + 1) o (by first | (simp; done) | (simp; omega) | omega); have hf2_w1 := fun o => (bcell hb1).2 (w.heap.size + 2) o (by first | (simp; done) | (simp; omega) | omega)
  go_wp2_with fail
  refine (ref0_CopyNumbers sA sn sc s _ (HS.out.up (by (repeat (first | (with_reducible exact Below.refl _ _) | (with_reducible assumption) | (with_reducible apply bel_alloc) | (with_reducible apply bel_drew) | (with_reducible apply bel_drewN) | (with_reducible refine bel_trans ?_ (by with_reducible assumption)) | (with_reducible refine bel_trans ?_ (HF.out _)) | ((with_reducible refine bel_set3 ?_ ?_); rotate_left; omega))))) (by omega)).mono ?_
  rintro e w2 ⟨vs, rfl, hs2, hb2⟩
  obtain ⟨As, cs, rfl, _⟩ := nmI hs2 HS.out.1 (by omega)
  have HS2 := Lib.hid hs2
  clear hs2
  have hz_w2 : w.heap.size + 3 ≤ w2.heap.size := (by have hq := (hb2).size; (try simp at hq); omega); have hc0_w2 := fun o => (bcell hb2).1 (w.heap.size) o (by first | (simp; done) | (simp; omega) | omega); have hc1_w2 := fun o => (bcell hb2).1 (w.heap.size + 1) o (by first | (simp; done) | (simp; omega) | omega); have hc2_w2 := fun o => (bcell hb2).1 (w.heap.size + 2) o (by first | (simp; done) | (simp; omega) | omega); have hf0_w2 := fun o => (bcell hb2).2 (w.heap.size) o (by first | (simp; done) | (simp; omega) | omega); have hf1_w2 := fun o => (bcell hb2).2 (w.heap.size + 1) o (by first | (simp; done) | (simp; omega) | omega); have hf2_w2 := fun o => (bcell hb2).2 (w.heap.size + 2) o (by first | (simp; done) | (simp; omega) | omega)
  have hP2 : OwnP w2 (w.heap.size + 3) (.slice Ap pn cp) p := OwnP.up (OwnP.set3 (OwnP.set3 (OwnP.mono HP1.out (by simp)) (by omega) _) (by omega) _) hb2
  have hA2 : OwnA w2 (w.heap.size + 3) (.slice Aa qn ca) q := OwnA.up (OwnA.set3 (OwnA.set3 (OwnA.mono HA1.out (by simp)) (by omega) _) (by omega) _) hb2
  have hE : ExO w2 (w.heap.size + 3) (.slice Ap pn cp) (.slice Aa qn ca) (.slice As sn cs) p q s :=
    { p := hP2, a := hA2, s := OwnI.mono HS2.out (by simp; omega), pa := hd1, ps := disj_later HP1.out HS2.out (by simp), qs := disj_later HA1.out HS2.out (by simp) }
  have HE := Lib.hid hE
  clear hP2 hA2 hE HP1 HA1 HS2
  go_wp2_with fail
  refine bodyPost_ret (v := .agg #[.slice Ap pn cp, .slice Aa qn ca, .slice As sn cs, .int .i64 c]) (by simp [results, Tryz.results5, go_sem, hc0_w1, hc1_w1, hc2_w1, hc0_w2, hc1_w2, hc2_w2]) rfl ⟨_, _, _, rfl, ?_, by (repeat (first | (with_reducible exact Below.refl _ _) | (with_reducible assumption) | (with_reducible apply bel_alloc) | (with_reducible apply bel_drew) | (with_reducible apply bel_drewN) | (with_reducible refine bel_trans ?_ (by with_reducible assumption)) | (with_reducible refine bel_trans ?_ (HF.out _)) | ((with_reducible refine bel_set3 ?_ ?_); rotate_left; omega)))⟩
  exact (((((HE.out.set (by omega) _).set (by omega) _).set (by omega) _).set (by omega) _).set (by omega) _).mono (by omega)
set_option maxRecDepth 100000 in
set_option maxHeartbeats 1000000 in
theorem ref0_EqExec (pA qA sA pB qB sB : Option Addr) (pn pc qn qc sn sc pm pd qm qd sm sd : Nat) (p : List PairD) (q : List AcctD) (s : List Int) (c : Int) (w : World) (hp : PairsR w pA pn p) (hq : AcctsR w qA qn q) (hs : IntsR w sA sn s) (hp' : PairsR w pB pm p) (hq' : AcctsR w qB qm q) (hs' : IntsR w sB sm s) :
    Calls Tryz.prog 18 #[.agg #[.slice pA pn pc, .slice qA qn qc, .slice sA sn sc, .int .i64 c], .agg #[.slice pB pm pd, .slice qB qm qd, .slice sB sm sd, .int .i64 c]] w fun e w' => e = .returned (.bool true) ∧ Below w.heap.size w w' := by
  have HP := Lib.hid hp
  have HQ := Lib.hid hq
  have HS := Lib.hid hs
  have HP' := Lib.hid hp'
  have HQ' := Lib.hid hq'
  have HS' := Lib.hid hs'
  clear hp hq hs hp' hq' hs'
  go_enter Tryz.func18, Tryz.ntmps18
  go_wp2_with fail
  refine (ref0_EqTable pA pn pc qA qn qc pB pm pd qB qm qd p q _ (HP.out.up (by (repeat (first | (with_reducible exact Below.refl _ _) | (with_reducible assumption) | (with_reducible apply bel_alloc) | (with_reducible apply bel_drew) | (with_reducible apply bel_drewN) | (with_reducible refine bel_trans ?_ (by with_reducible assumption)) | (with_reducible refine bel_trans ?_ (HF.out _)) | ((with_reducible refine bel_set3 ?_ ?_); rotate_left; omega))))) (HQ.out.up (by (repeat (first | (with_reducible exact Below.refl _ _) | (with_reducible assumption) | (with_reducible apply bel_alloc) | (with_reducible apply bel_drew) | (with_reducible apply bel_drewN) | (with_reducible refine bel_trans ?_ (by with_reducible assumption)) | (with_reducible refine bel_trans ?_ (HF.out _)) | ((with_reducible refine bel_set3 ?_ ?_); rotate_left; omega))))) (HP'.out.up (by (repeat (first | (with_reducible exact Below.refl _ _) | (with_reducible assumption) | (with_reducible apply bel_alloc) | (with_reducible apply bel_drew) | (with_reducible apply bel_drewN) | (with_reducible refine bel_trans ?_ (by with_reducible assumption)) | (with_reducible refine bel_trans ?_ (HF.out _)) | ((with_reducible refine bel_set3 ?_ ?_); rotate_left; omega))))) (HQ'.out.up (by (repeat (first | (with_reducible exact Below.refl _ _) | (with_reducible assumption) | (with_reducible apply bel_alloc) | (with_reducible apply bel_drew) | (with_reducible apply bel_drewN) | (with_reducible refine bel_trans ?_ (by with_reducible assumption)) | (with_reducible refine bel_trans ?_ (HF.out _)) | ((with_reducible refine bel_set3 ?_ ?_); rotate_left; omega)))))).mono ?_
  rintro e w1 ⟨rfl, hb1⟩
  have hz_w1 : w.heap.size + 2 ≤ w1.heap.size := (by have hq := (hb1).size; (try simp at hq); omega); have hc0_w1 := fun o => (bcell hb1).1 (w.heap.size) o (by first | (simp; done) | (simp; omega) | omega); have hc1_w1 := fun o => (bcell hb1).1 (w.heap.size + 1) o (by first | (simp; done) | (simp; omega) | omega)
  go_wp2_with fail
  refine (ref0_EqNumbers_same sA sn sc s sB sm sd _ (HS.out.up (by (repeat (first | (with_reducible exact Below.refl _ _) | (with_reducible assumption) | (with_reducible apply bel_alloc) | (with_reducible apply bel_drew) | (with_reducible apply bel_drewN) | (with_reducible refine bel_trans ?_ (by with_reducible assumption)) | (with_reducible refine bel_trans ?_ (HF.out _)) | ((with_reducible refine bel_set3 ?_ ?_); rotate_left; omega))))) (HS'.out.up (by (repeat (first | (with_reducible exact Below.refl _ _) | (with_reducible assumption) | (with_reducible apply bel_alloc) | (with_reducible apply bel_drew) | (with_reducible apply bel_drewN) | (with_reducible refine bel_trans ?_ (by with_reducible assumption)) | (with_reducible refine bel_trans ?_ (HF.out _)) | ((with_reducible refine bel_set3 ?_ ?_); rotate_left; omega)))))).mono ?_
  rintro e w2 ⟨rfl, hb2⟩
  have hz_w2 : w.heap.size + 2 ≤ w2.heap.size := (by have hq := (hb2).size; (try simp at hq); omega); have hc0_w2 := fun o => (bcell hb2).1 (w.heap.size) o (by first | (simp; done) | (simp; omega) | omega); have hc1_w2 := fun o => (bcell hb2).1 (w.heap.size + 1) o (by first | (simp; done) | (simp; omega) | omega)
  go_wp2_with fail
  go_ret
  exact ⟨rfl, by (repeat (first | (with_reducible exact Below.refl _ _) | (with_reducible assumption) | (with_reducible apply bel_alloc) | (with_reducible apply bel_drew) | (with_reducible apply bel_drewN) | (with_reducible refine bel_trans ?_ (by with_reducible assumption)) | (with_reducible refine bel_trans ?_ (HF.out _)) | ((with_reducible refine bel_set3 ?_ ?_); rotate_left; omega)))⟩
theorem step_app1 {ops : Array Oper} {o : Oper} {a : Act} {w : World} {K : Act → World → Prop} {Q : Exit → Act → World → Prop} {E : Prop}
    (hg : o.guard = none) (s x : Operand) (ho : o.op = .call { callee := .builtin .append, args := #[s, x], argTypes := #[26, 26] }) (hty : o.type = 26)
    (B : Nat) (v : Value) (l : List Int) (hs : a.eval s = v) (hown : OwnI w B v l) (g : Nat) (y : Int) (hx : a.eval x = .slice (some ⟨g, 0, none⟩) 1 1) (hc : w.cell? ⟨g, 0, none⟩ = some (.int .i64 y))
    (hlen : l.length ≤ 900000000) (hB : B ≤ w.heap.size)
    (h : ∀ v' w', OwnI w' B v' (l ++ [y]) → w.grownBy w' v.ownBlock → Below B w w' → (v'.ownBlock = v.ownBlock ∨ v'.ownBlock = some w.heap.size) → K (a.put o.dst v') w') :
    if Region.wanted o (yielded ops a.tmps) = true then Oper.wp Tryz.prog o a w K Q else E := by
  have hw : Region.wanted o (yielded ops a.tmps) = true := by simp [Region.wanted, hg]
  rw [if_pos hw]
  obtain ⟨v', w', hrun, h2, h3, h4, h5⟩ := run_app_Int w B v l.length (l.map (Value.int .i64)) hown g 0 1 1 [.int .i64 y] rfl
    (fun j u hj => by cases j with
      | zero => simp at hj; subst hj; simpa using hc
      | succ j => simp at hj) (by simp [Value.oneCell']) (by omega) hB
  have hown' : OwnI w' B v' (l ++ [y]) := by unfold OwnI; simpa using h2
  exact Lib.wp_append_run w s x _ _ ho v _ hs hx v' w' (by rw [hty]; exact hrun) (h v' w' hown' h3 h4 h5)
/-- .. while digests are put behind: in a box of one's own, with those that are new beside it. -/
structure RPush (w : World) (C g : Nat) (vp va vs vf : Value) (p : List PairD) (q : List AcctD) (s F : List Int) (c : Int) : Prop where
  o : PushO w C vp va vs vf p q s F
  bx : Blk w g 28 [vp, va, vs, .int .i64 c]
  np : vp.ownBlock ≠ some g
  na : va.ownBlock ≠ some g
  ns : vs.ownBlock ≠ some g
  nf : vf.ownBlock ≠ some g
theorem RPush.up {w w' : World} {C g : Nat} {vp va vs vf : Value} {p : List PairD} {q : List AcctD} {s F : List Int} {c : Int} (h : RPush w C g vp va vs vf p q s F c) (hb : Below w.heap.size w w') : RPush w' C g vp va vs vf p q s F c :=
  { h with o := h.o.up hb, bx := h.bx.up hb }
theorem disj_grow {w : World} {v u u' : Value} (h : Disj v u) (hv : ∀ g, v.ownBlock = some g → g < w.heap.size) (hat : u'.ownBlock = u.ownBlock ∨ ∃ g, u'.ownBlock = some g ∧ w.heap.size ≤ g) : Disj v u' := by
  intro g e1 e2
  rcases hat with e | ⟨k, e, hk⟩
  · rw [e] at e2; exact h g e1 e2
  · rw [e] at e2; injection e2 with e2; have := hv g e1; omega
theorem ne_grow {w : World} {g : Nat} {u u' : Value} (h : u.ownBlock ≠ some g) (hg : g < w.heap.size) (hat : u'.ownBlock = u.ownBlock ∨ ∃ g, u'.ownBlock = some g ∧ w.heap.size ≤ g) : u'.ownBlock ≠ some g := by
  intro e2
  rcases hat with e | ⟨k, e, hk⟩
  · rw [e] at e2; exact h e2
  · rw [e] at e2; injection e2 with e2; omega
theorem RPush.seen {w w' : World} {C g : Nat} {vp va vs vf vs' : Value} {p : List PairD} {q : List AcctD} {s F s' : List Int} {c : Int} (h : RPush w C g vp va vs vf p q s F c) (ho : OwnI w' C vs' s') (hg : w.grownBy w' vs.ownBlock) (hat : vs'.ownBlock = vs.ownBlock ∨ ∃ g, vs'.ownBlock = some g ∧ w.heap.size ≤ g) :
    RPush (w'.setCell ⟨g, 2, none⟩ vs') C g vp va vs' vf p q s' F c := by
  have hns := ne_grow h.ns h.bx.lt hat
  refine { o := { e := { p := own_setD (own_grown h.o.e.p hg h.o.e.ps) h.np _, a := own_setD (own_grown h.o.e.a hg h.o.e.qs) h.na _, s := own_setD ho hns _, pa := h.o.e.pa, ps := disj_grow h.o.e.ps (fun g e => (own_lt h.o.e.p g e).2) hat, qs := disj_grow h.o.e.qs (fun g e => (own_lt h.o.e.a g e).2) hat }, f := own_setD (own_grown h.o.f hg h.o.sf.symm) h.nf _, pf := h.o.pf, qf := h.o.qf, sf := (disj_grow h.o.sf.symm (fun g e => (own_lt h.o.f g e).2) hat).symm }, bx := (h.bx.grown2 hg h.ns).set_ 2 vs', np := h.np, na := h.na, ns := hns, nf := h.nf }
theorem RPush.out {w w' : World} {C g : Nat} {vp va vs vf vf' : Value} {p : List PairD} {q : List AcctD} {s F F' : List Int} {c : Int} (h : RPush w C g vp va vs vf p q s F c) (ho : OwnI w' C vf' F') (hg : w.grownBy w' vf.ownBlock) (hat : vf'.ownBlock = vf.ownBlock ∨ ∃ g, vf'.ownBlock = some g ∧ w.heap.size ≤ g) :
    RPush w' C g vp va vs vf' p q s F' c := by
  have hns := ne_grow h.nf h.bx.lt hat
  exact { o := { e := { p := own_grown h.o.e.p hg h.o.pf, a := own_grown h.o.e.a hg h.o.qf, s := own_grown h.o.e.s hg h.o.sf, pa := h.o.e.pa, ps := h.o.e.ps, qs := h.o.e.qs }, f := ho, pf := disj_grow h.o.pf (fun g e => (own_lt h.o.e.p g e).2) hat, qf := disj_grow h.o.qf (fun g e => (own_lt h.o.e.a g e).2) hat, sf := disj_grow h.o.sf (fun g e => (own_lt h.o.e.s g e).2) hat }, bx := h.bx.grown2 hg h.nf, np := h.np, na := h.na, ns := h.ns, nf := hns }
set_option maxRecDepth 100000 in
set_option maxHeartbeats 4000000 in
theorem ref22_Push (pA qA sA lA : Option Addr) (pn pc qn qc sn sc ln lc : Nat) (p : List PairD) (q : List AcctD) (s l : List Int) (c : Int) (w : World) (hp : PairsR w pA pn p) (hq : AcctsR w qA qn q) (hs : IntsR w sA sn s) (hl : IntsR w lA ln l) (h1 : pn ≤ 1000000) (h2 : qn ≤ 1000000) (h3 : sn ≤ 1000000) (h4 : ln ≤ 1000000) :
    Calls Tryz.prog 21 #[.agg #[.slice pA pn pc, .slice qA qn qc, .slice sA sn sc, .int .i64 c], .slice lA ln lc] w fun e w' => ∃ vp va vs vf, e = .returned (.tuple #[.agg #[vp, va, vs, .int .i64 c], vf]) ∧ PushO w' w.heap.size vp va vs vf p q (s ++ freshL s l) (freshL s l) ∧ Below w.heap.size w w' := by
  have HP := Lib.hid hp
  have HQ := Lib.hid hq
  have HS := Lib.hid hs
  have HL := Lib.hid hl
  have HM := Lib.hid hl.1
  have HN := Lib.hid hs.1
  clear hp hq hs hl
  go_enter Tryz.func21, Tryz.ntmps21
  go_wp2_with (go_at_call 5; refine (ref0_CopyExec pA qA sA pn pc qn qc sn sc p q s c _ (HP.out.up (by (repeat (first | (with_reducible exact Below.refl _ _) | (with_reducible assumption) | (with_reducible apply bel_alloc) | (with_reducible apply bel_drew) | (with_reducible apply bel_drewN) | (with_reducible refine bel_trans ?_ (by with_reducible assumption)) | (with_reducible refine bel_trans ?_ (HF.out _)) | (with_reducible refine bel_set ?_ (by simp) _) | (with_reducible refine bel_set ?_ (by simp; omega) _) | (with_reducible refine bel_set ?_ (by omega) _))))) (HQ.out.up (by (repeat (first | (with_reducible exact Below.refl _ _) | (with_reducible assumption) | (with_reducible apply bel_alloc) | (with_reducible apply bel_drew) | (with_reducible apply bel_drewN) | (with_reducible refine bel_trans ?_ (by with_reducible assumption)) | (with_reducible refine bel_trans ?_ (HF.out _)) | (with_reducible refine bel_set ?_ (by simp) _) | (with_reducible refine bel_set ?_ (by simp; omega) _) | (with_reducible refine bel_set ?_ (by omega) _))))) (HS.out.up (by (repeat (first | (with_reducible exact Below.refl _ _) | (with_reducible assumption) | (with_reducible apply bel_alloc) | (with_reducible apply bel_drew) | (with_reducible apply bel_drewN) | (with_reducible refine bel_trans ?_ (by with_reducible assumption)) | (with_reducible refine bel_trans ?_ (HF.out _)) | (with_reducible refine bel_set ?_ (by simp) _) | (with_reducible refine bel_set ?_ (by simp; omega) _) | (with_reducible refine bel_set ?_ (by omega) _))))) (by omega) (by omega) (by omega)).mono ?_; rintro e w1 ⟨vp, va, vs, rfl, hex, hb1⟩; obtain ⟨Ap, cp, rfl, _⟩ := nmP hex.p HP.out.1 (by omega); obtain ⟨Aa, ca, rfl, _⟩ := nmA hex.a HQ.out.1 (by omega); obtain ⟨As, cs, rfl, _⟩ := nmI hex.s HS.out.1 (by omega); have HEX := Lib.hid hex; clear hex)
  have hz1 := hb1.size
  have hz1' : w.heap.size + 2 ≤ w1.heap.size := by simpa using hz1
  obtain ⟨g, hgd⟩ : ∃ g, g = w1.heap.size := ⟨_, rfl⟩
  have hE1 : ExO w1 (w.heap.size + 2) (.slice Ap pn cp) (.slice Aa qn ca) (.slice As sn cs) p q s := HEX.out.mono (by simp)
  have hbX : Below w.heap.size w (w1.alloc (.cells #[.slice Ap pn cp, .slice Aa qn ca, .slice As sn cs, .int .i64 c] 28)) := by (repeat (first | (with_reducible exact Below.refl _ _) | (with_reducible assumption) | (with_reducible apply bel_alloc) | (with_reducible apply bel_drew) | (with_reducible apply bel_drewN) | (with_reducible refine bel_trans ?_ (by with_reducible assumption)) | (with_reducible refine bel_trans ?_ (HF.out _)) | (with_reducible refine bel_set ?_ (by simp) _) | (with_reducible refine bel_set ?_ (by simp; omega) _) | (with_reducible refine bel_set ?_ (by omega) _)))
  have hJ0 : RPush (w1.alloc (.cells #[.slice Ap pn cp, .slice Aa qn ca, .slice As sn cs, .int .i64 c] 28)) (w.heap.size + 2) g (.slice Ap pn cp) (.slice Aa qn ca) (.slice As sn cs) (.slice none 0 0) p q (s ++ []) [] c :=
    { o := { e := by rw [List.append_nil]; exact hE1.up (by (repeat (first | (with_reducible exact Below.refl _ _) | (with_reducible assumption) | (with_reducible apply bel_alloc) | (with_reducible apply bel_drew) | (with_reducible apply bel_drewN) | (with_reducible refine bel_trans ?_ (by with_reducible assumption)) | (with_reducible refine bel_trans ?_ (HF.out _)) | (with_reducible refine bel_set ?_ (by simp) _) | (with_reducible refine bel_set ?_ (by simp; omega) _) | (with_reducible refine bel_set ?_ (by omega) _)))), f := OwnI.nil _ _, pf := fun g e1 e2 => (by cases e2), qf := fun g e1 e2 => (by cases e2), sf := fun g e1 e2 => (by cases e2) }, bx := by rw [hgd]; exact Blk.new w1 28 [.slice Ap pn cp, .slice Aa qn ca, .slice As sn cs, .int .i64 c], np := fun e => (by have := (own_lt hE1.p _ e).2; omega), na := fun e => (by have := (own_lt hE1.a _ e).2; omega), ns := fun e => (by have := (own_lt hE1.s _ e).2; omega), nf := fun e => (by cases e) }
  have hR0 : Blk (w1.alloc (.cells #[.slice Ap pn cp, .slice Aa qn ca, .slice As sn cs, .int .i64 c] 28)) (w.heap.size + 1) 28 [.slice none 0 0, .slice none 0 0, .slice none 0 0, .int .i64 0] := (show Blk ((w.alloc (.cells #[.slice pA pn pc, .slice qA qn qc, .slice sA sn sc, .int .i64 c] 28)).alloc (.cells #[.slice none 0 0, .slice none 0 0, .slice none 0 0, .int .i64 0] 28)) (w.heap.size + 1) 28 [.slice none 0 0, .slice none 0 0, .slice none 0 0, .int .i64 0] from by have := Blk.new (w.alloc (.cells #[.slice pA pn pc, .slice qA qn qc, .slice sA sn sc, .int .i64 c] 28)) 28 [.slice none 0 0, .slice none 0 0, .slice none 0 0, .int .i64 0]; simpa using this).up (by (repeat (first | (with_reducible exact Below.refl _ _) | (with_reducible assumption) | (with_reducible apply bel_alloc) | (with_reducible apply bel_drew) | (with_reducible apply bel_drewN) | (with_reducible refine bel_trans ?_ (by with_reducible assumption)) | (with_reducible refine bel_trans ?_ (HF.out _)) | (with_reducible refine bel_set ?_ (by simp) _) | (with_reducible refine bel_set ?_ (by simp; omega) _) | (with_reducible refine bel_set ?_ (by omega) _))))
  have HJ0 := Lib.hid hJ0
  have HR0 := Lib.hid hR0
  have hzX : w.heap.size + 3 ≤ (w1.alloc (.cells #[.slice Ap pn cp, .slice Aa qn ca, .slice As sn cs, .int .i64 c] 28)).heap.size := by simp; omega
  have hgw : w.heap.size + 2 ≤ g := by omega
  rw [← hgd]
  clear hJ0 hR0 hE1
  generalize (w1.alloc (.cells #[.slice Ap pn cp, .slice Aa qn ca, .slice As sn cs, .int .i64 c] 28)) = X at *
  clear hgd HEX hb1 hz1 hz1'
  go_loopw [7, 8] (fun v7 ix wr => ∃ (j : Nat) (acc : List Int) (vs : Value), j ≤ ln ∧ acc.length ≤ j ∧ ix = .int .i64 j ∧ Hid (acc ++ freshL (s ++ acc) (l.drop j) = freshL s l) ∧ Hid (RPush wr (w.heap.size + 2) g (.slice Ap pn cp) (.slice Aa qn ca) vs v7 p q (s ++ acc) acc c) ∧ Hid (Blk wr (w.heap.size + 1) 28 [.slice none 0 0, .slice none 0 0, .slice none 0 0, .int .i64 0]) ∧ Below w.heap.size w wr) (fun _ ix _ => ln - (intOf ix).toNat)
  case atStart => exact ⟨0, [], _, Nat.zero_le _, Nat.le_refl _, rfl, Lib.hid (by simp), HJ0, HR0, hbX⟩
  case round =>
    clear HJ0 HR0 hbX hzX
    obtain ⟨j, acc, vs, hj, hacc, rfl, HF, HJ, HR, hbw⟩ := hrel
    (obtain ⟨wj, hwj⟩ : ∃ x, x = wr := ⟨_, rfl⟩); subst hwj
    obtain ⟨S, hS⟩ : ∃ S, s ++ acc = S := ⟨_, rfl⟩
    have hSl : S.length ≤ 2000000 := by rw [← hS, List.length_append, HN.out]; omega
    obtain ⟨N, hNd⟩ : ∃ N, S.length = N := ⟨_, rfl⟩
    rw [hS] at HJ HF
    obtain ⟨A5, c5, rfl, hsr⟩ := nmI HJ.out.o.e.s hNd (by omega)
    have hN2 : N ≤ 2000000 := by omega
    have HSR := Lib.hid hsr
    have HSD := Lib.hid hS
    have HND := Lib.hid hNd
    have x_0 := (HJ.out.bx.box).2 0 _ rfl; have x_1 := (HJ.out.bx.box).2 1 _ rfl; have x_2 := (HJ.out.bx.box).2 2 _ rfl; have x_3 := (HJ.out.bx.box).2 3 _ rfl
    have hgl := HJ.out.bx.lt
    have hrl := HR.out.lt
    clear hsr hS hNd hSl
    by_cases hlt : j < ln
    · obtain ⟨b, off, rfl, hb, hc⟩ := (HL.out.up hbw).2.2 (by omega)
      have hck := hc j hlt
      clear hc
      obtain ⟨x, hx⟩ : ∃ x, nth l j = x := ⟨_, rfl⟩
      have hfs := fresh_step (s := S) (l := l) (k := j) (by rw [HM.out]; exact hlt)
      rw [hx] at hck hfs
      have HFS := Lib.hid hfs
      have HXX := Lib.hid hx
      obtain ⟨z, hz⟩ : ∃ z, inS S x = z := ⟨_, rfl⟩
      have HZ := Lib.hid hz
      have HBL : Hid (b < wj.heap.size) := Lib.hid hb
      clear hx hfs hz
      by_cases hz0 : z < 0
      · have hz0d : decide (z < 0) = true := by simpa using hz0
        have hni : x ∉ S := inS_neg.1 (by rw [HZ.out]; exact hz0)
        have hF2 : (acc ++ [x]) ++ freshL (s ++ (acc ++ [x])) (l.drop (j + 1)) = freshL s l := by
          rw [← HF.out, HFS.out, if_neg hni, ← HSD.out]; simp
        have HF2 := Lib.hid hF2
        clear hF2 hni hz0
        go_wp2_with fail
        refine wp_region_fam (by kernel_rfl) (by kernel_rfl) (fun ι F hne hF hcl => ?_)
        have hcF0 := fun n o => (bcell (hF n)).1 (g) o (by first | (simp; done) | (simp; omega) | omega)
        have hcF1 := fun n o => (bcell (hF n)).1 (b) o (by first | (simp; done) | (simp; omega) | omega)
        have HF := Lib.hid hF; clear hF
        have HC := Lib.hid hcl; clear hcl
        repeat (any_goals (first
         | go_big_quiet_step (first | (go_at_call 30; exact Calls.fam_same ((ref0_In _ _ _ S x _ (HSR.out.up (HF.out _))).mono (fun e w' h => by rw [HZ.out] at h; exact h))))
         | (refine wpQuiet_guard _ _ _ rfl rfl ?_; (fail_if_success (intro b' hb; have h2 := hb.symm; have : b' = true := h2.trans (by with_reducible rfl))); (fail_if_success (intro b' hb; have h2 := hb.symm; have : b' = false := h2.trans (by with_reducible rfl))); intro b' hb; simp only [hb]; cases b' <;> (try simp only [Bool.not_eq_true', Bool.not_eq_false', decide_eq_true_eq, decide_eq_false_iff_not, Int.not_lt, Int.not_le, Bool.and_eq_true, Bool.or_eq_true, Bool.or_eq_false_iff, beq_iff_eq, beq_eq_false_iff_ne, Int.natCast_pos] at hb))))
        all_goals (refine wpQuiet_nil ?_; intro nq)
        all_goals (try (exfalso; omega))
        have hFwf := HF.out nq
        clear HF HC hne
        generalize F nq = wf at *
        have hJf := HJ.out.up hFwf
        have hRf := HR.out.up hFwf
        have hbwf : Below w.heap.size w wf := bel_trans hbw hFwf
        have HJf := Lib.hid hJf
        have HRf := Lib.hid hRf
        have hckf := (hFwf.cell (p := ⟨b, off + j, none⟩) HBL.out).trans hck
        have hbf : b < wf.heap.size := Nat.lt_of_lt_of_le HBL.out hFwf.size
        clear hcF0 hcF1 x_0 x_1 x_2 x_3 hJf hRf hck
        have x_0 := (HJf.out.bx.box).2 0 _ rfl; have x_1 := (HJf.out.bx.box).2 1 _ rfl; have x_2 := (HJf.out.bx.box).2 2 _ rfl; have x_3 := (HJf.out.bx.box).2 3 _ rfl
        have hgf := HJf.out.bx.lt
        have hzf : w.heap.size + 2 ≤ wf.heap.size := by omega
        have hbxf := HJf.out.bx.frozen
        go_wp2_with fail
        go_region_law (refine step_app1 rfl (.tmp 26) (.tmp 31) rfl rfl (w.heap.size + 2) (.slice A5 N c5) S (by simp [Act.eval, Act.put]) (OwnI.up HJf.out.o.e.s (by (repeat (first | (with_reducible exact Below.refl _ _) | (with_reducible assumption) | (with_reducible apply bel_alloc) | (with_reducible apply bel_drew) | (with_reducible apply bel_drewN) | (with_reducible refine bel_trans ?_ (by with_reducible assumption)) | (with_reducible refine bel_trans ?_ (HF.out _)) | (with_reducible refine bel_set ?_ (by simp) _) | (with_reducible refine bel_set ?_ (by simp; omega) _) | (with_reducible refine bel_set ?_ (by omega) _))))) wf.heap.size x (by simp [Act.eval, Act.put]) (by first | exact cell0_alloc _ _ _ | (simp; done)) (by have := HND.out; omega) (by first | omega | (simp; omega)) ?_; intro v5 w5 hown5 hg5 hb5 hat5; obtain ⟨A6, c6, rfl, hsr6⟩ := nmI hown5 (n := N + 1) (by simp [HND.out]) (by omega); have hB5 := (HJf.out.up (by (repeat (first | (with_reducible exact Below.refl _ _) | (with_reducible assumption) | (with_reducible apply bel_alloc) | (with_reducible apply bel_drew) | (with_reducible apply bel_drewN) | (with_reducible refine bel_trans ?_ (by with_reducible assumption)) | (with_reducible refine bel_trans ?_ (HF.out _)) | (with_reducible refine bel_set ?_ (by simp) _) | (with_reducible refine bel_set ?_ (by simp; omega) _) | (with_reducible refine bel_set ?_ (by omega) _))))).bx.grown2 hg5 HJf.out.ns; have hf5 := hB5.frozen; have y_0 := (hB5.box).2 0 _ rfl; have y_1 := (hB5.box).2 1 _ rfl; have y_2 := (hB5.box).2 2 _ rfl; have y_3 := (hB5.box).2 3 _ rfl; have hgl5 := hB5.lt; clear hB5)
        all_goals
          have hJ6 := (HJf.out.up (by (repeat (first | (with_reducible exact Below.refl _ _) | (with_reducible assumption) | (with_reducible apply bel_alloc) | (with_reducible apply bel_drew) | (with_reducible apply bel_drewN) | (with_reducible refine bel_trans ?_ (by with_reducible assumption)) | (with_reducible refine bel_trans ?_ (HF.out _)) | (with_reducible refine bel_set ?_ (by simp) _) | (with_reducible refine bel_set ?_ (by simp; omega) _) | (with_reducible refine bel_set ?_ (by omega) _))))).seen hown5 hg5 (hat5.imp id (fun h => ⟨_, h, Nat.le_refl _⟩))
          have hR6 := ((HRf.out.up (by (repeat (first | (with_reducible exact Below.refl _ _) | (with_reducible assumption) | (with_reducible apply bel_alloc) | (with_reducible apply bel_drew) | (with_reducible apply bel_drewN) | (with_reducible refine bel_trans ?_ (by with_reducible assumption)) | (with_reducible refine bel_trans ?_ (HF.out _)) | (with_reducible refine bel_set ?_ (by simp) _) | (with_reducible refine bel_set ?_ (by simp; omega) _) | (with_reducible refine bel_set ?_ (by omega) _))))).below hb5 (by omega)).far (p := ⟨g, 2, none⟩) (by dsimp only; omega) (.slice A6 (N + 1) c6)
          have hb6 : Below w.heap.size w (w5.setCell ⟨g, 2, none⟩ (.slice A6 (N + 1) c6)) := ((bel_trans hbwf (by (repeat (first | (with_reducible exact Below.refl _ _) | (with_reducible assumption) | (with_reducible apply bel_alloc) | (with_reducible apply bel_drew) | (with_reducible apply bel_drewN) | (with_reducible refine bel_trans ?_ (by with_reducible assumption)) | (with_reducible refine bel_trans ?_ (HF.out _)) | (with_reducible refine bel_set ?_ (by simp) _) | (with_reducible refine bel_set ?_ (by simp; omega) _) | (with_reducible refine bel_set ?_ (by omega) _))))).trans (hb5.mono (by omega))).setCell (by dsimp only; omega) _
          have hck6 : (w5.setCell ⟨g, 2, none⟩ (.slice A6 (N + 1) c6)).cell? ⟨b, off + j, none⟩ = some (.int .i64 x) := by
            have q := (HL.out.up hb6).2.2 (by omega)
            obtain ⟨b', off', e', _, hc'⟩ := q
            injection e' with e'; injection e' with e1 e2
            subst e1; subst e2
            have q2 := hc' j hlt
            rw [HXX.out] at q2
            exact q2
          have hz6 : w.heap.size + 2 ≤ (w5.setCell ⟨g, 2, none⟩ (.slice A6 (N + 1) c6)).heap.size := by have := hb6.size; have := hR6.lt; omega
          have hb6l : b < (w5.setCell ⟨g, 2, none⟩ (.slice A6 (N + 1) c6)).heap.size := by have := hb5.size; simp at this ⊢; omega
          have HJ6 := Lib.hid hJ6
          have HR6 := Lib.hid hR6
          have HB6 := Lib.hid hb6
          clear hJ6 hR6 hb6 hown5
          generalize (w5.setCell ⟨g, 2, none⟩ (.slice A6 (N + 1) c6)) = w6 at *
          go_wp2_with (at_builtin; refine wpList_app1 rfl (.tmp 34) (.tmp 39) rfl (w.heap.size + 2) _ _ rfl (HJ6.out.o.f.alloc _) _ x rfl (cell0_alloc _ _ _) (by omega) (le_alloc hz6) ?_; intro v7 w7 hown7 hg7 hb7 hat7)
          have hJ7 := (HJ6.out.up (by (repeat (first | (with_reducible exact Below.refl _ _) | (with_reducible assumption) | (with_reducible apply bel_alloc) | (with_reducible apply bel_drew) | (with_reducible apply bel_drewN) | (with_reducible refine bel_trans ?_ (by with_reducible assumption)) | (with_reducible refine bel_trans ?_ (HF.out _)) | (with_reducible refine bel_set ?_ (by simp) _) | (with_reducible refine bel_set ?_ (by simp; omega) _) | (with_reducible refine bel_set ?_ (by omega) _))))).out hown7 hg7 (hat7.imp id (fun h => ⟨_, h, Nat.le_refl _⟩))
          have hR7 := (HR6.out.up (by (repeat (first | (with_reducible exact Below.refl _ _) | (with_reducible assumption) | (with_reducible apply bel_alloc) | (with_reducible apply bel_drew) | (with_reducible apply bel_drewN) | (with_reducible refine bel_trans ?_ (by with_reducible assumption)) | (with_reducible refine bel_trans ?_ (HF.out _)) | (with_reducible refine bel_set ?_ (by simp) _) | (with_reducible refine bel_set ?_ (by simp; omega) _) | (with_reducible refine bel_set ?_ (by omega) _))))).below hb7 (by omega)
          have hb8 : Below w.heap.size w w7 := (bel_trans HB6.out (by (repeat (first | (with_reducible exact Below.refl _ _) | (with_reducible assumption) | (with_reducible apply bel_alloc) | (with_reducible apply bel_drew) | (with_reducible apply bel_drewN) | (with_reducible refine bel_trans ?_ (by with_reducible assumption)) | (with_reducible refine bel_trans ?_ (HF.out _)) | (with_reducible refine bel_set ?_ (by simp) _) | (with_reducible refine bel_set ?_ (by simp; omega) _) | (with_reducible refine bel_set ?_ (by omega) _))))).trans (hb7.mono (by omega))
          (first | (go_round; (case rel => exact ⟨j + 1, acc ++ [x], _, by omega, by simp; omega, by go_num, HF2, Lib.hid (by rw [← List.append_assoc, HSD.out]; exact hJ7), Lib.hid hR7, hb8⟩); (case measure => (simp [intOf] <;> omega))) | (go_roundw; (case rel => exact ⟨j + 1, acc ++ [x], _, by omega, by simp; omega, by go_num, HF2, Lib.hid (by rw [← List.append_assoc, HSD.out]; exact hJ7), Lib.hid hR7, hb8⟩); (case measure => (simp [intOf] <;> omega))) | (refine ⟨?_, by simp [intOf] <;> omega⟩; (repeat apply Exists.intro); refine ⟨?rel, ?fr⟩; (case fr => ((repeat' apply And.intro) <;> rfl)); (case rel => exact ⟨j + 1, acc ++ [x], _, by omega, by simp; omega, by go_num, HF2, Lib.hid (by rw [← List.append_assoc, HSD.out]; exact hJ7), Lib.hid hR7, hb8⟩)))
      · have hz0d : decide (z < 0) = false := by simpa using hz0
        have hni : x ∈ S := by
          have h9 : ¬ inS S x < 0 := by rw [HZ.out]; exact hz0
          exact Classical.not_not.1 (fun h => h9 (inS_neg.2 h))
        have hF2 : acc ++ freshL (s ++ acc) (l.drop (j + 1)) = freshL s l := by
          rw [← HF.out, HFS.out, if_pos hni, ← HSD.out]
        have HF2 := Lib.hid hF2
        clear hF2 hni hz0
        go_wp2_with fail
        refine wp_region_fam (by kernel_rfl) (by kernel_rfl) (fun ι F hne hF hcl => ?_)
        have hcF0 := fun n o => (bcell (hF n)).1 (g) o (by first | (simp; done) | (simp; omega) | omega)
        have hcF1 := fun n o => (bcell (hF n)).1 (b) o (by first | (simp; done) | (simp; omega) | omega)
        have HF := Lib.hid hF; clear hF
        have HC := Lib.hid hcl; clear hcl
        repeat (any_goals (first
         | go_big_quiet_step (first | (go_at_call 30; exact Calls.fam_same ((ref0_In _ _ _ S x _ (HSR.out.up (HF.out _))).mono (fun e w' h => by rw [HZ.out] at h; exact h))))
         | (refine wpQuiet_guard _ _ _ rfl rfl ?_; (fail_if_success (intro b' hb; have h2 := hb.symm; have : b' = true := h2.trans (by with_reducible rfl))); (fail_if_success (intro b' hb; have h2 := hb.symm; have : b' = false := h2.trans (by with_reducible rfl))); intro b' hb; simp only [hb]; cases b' <;> (try simp only [Bool.not_eq_true', Bool.not_eq_false', decide_eq_true_eq, decide_eq_false_iff_not, Int.not_lt, Int.not_le, Bool.and_eq_true, Bool.or_eq_true, Bool.or_eq_false_iff, beq_iff_eq, beq_eq_false_iff_ne, Int.natCast_pos] at hb))))
        all_goals (refine wpQuiet_nil ?_; intro nq)
        all_goals (try (exfalso; omega))
        have hFwf := HF.out nq
        clear HF HC hne
        generalize F nq = wf at *
        go_wp2_with fail
        (first | (go_round; (case rel => exact ⟨j + 1, acc, _, by omega, by omega, by go_num, HF2, Lib.hid (by rw [HSD.out]; exact HJ.out.up hFwf), Lib.hid (HR.out.up hFwf), bel_trans hbw hFwf⟩); (case measure => (simp [intOf] <;> omega))) | (go_roundw; (case rel => exact ⟨j + 1, acc, _, by omega, by omega, by go_num, HF2, Lib.hid (by rw [HSD.out]; exact HJ.out.up hFwf), Lib.hid (HR.out.up hFwf), bel_trans hbw hFwf⟩); (case measure => (simp [intOf] <;> omega))) | (refine ⟨?_, by simp [intOf] <;> omega⟩; (repeat apply Exists.intro); refine ⟨?rel, ?fr⟩; (case fr => ((repeat' apply And.intro) <;> rfl)); (case rel => exact ⟨j + 1, acc, _, by omega, by omega, by go_num, HF2, Lib.hid (by rw [HSD.out]; exact HJ.out.up hFwf), Lib.hid (HR.out.up hFwf), bel_trans hbw hFwf⟩)))
    · have hF2 : acc = freshL s l := by
        rw [← HF.out, List.drop_of_length_le (by rw [HM.out]; omega)]; simp [freshL]
      subst hF2
      obtain ⟨fn, hfn⟩ : ∃ fn, (freshL s l).length = fn := ⟨_, rfl⟩
      obtain ⟨Af, cf, rfl, _⟩ := nmI HJ.out.o.f hfn (by omega)
      have rf := HR.out.frozen
      have k_0 := (HR.out.box).2 0 _ rfl; have k_1 := (HR.out.box).2 1 _ rfl; have k_2 := (HR.out.box).2 2 _ rfl; have k_3 := (HR.out.box).2 3 _ rfl
      have hR7 := set4 HR.out (.slice Ap pn cp) (.slice Aa qn ca) (.slice A5 N c5) (.int .i64 c)
      have r_0 := (hR7.box).2 0 _ rfl; have r_1 := (hR7.box).2 1 _ rfl; have r_2 := (hR7.box).2 2 _ rfl; have r_3 := (hR7.box).2 3 _ rfl
      clear hR7 hfn
      go_wp2_with fail
      refine bodyPost_ret (v := .tuple #[.agg #[.slice Ap pn cp, .slice Aa qn ca, .slice A5 N c5, .int .i64 c], .slice Af fn cf]) (by simp [results, Tryz.results21, go_sem, r_0, r_1, r_2, r_3]) rfl ⟨_, _, _, _, rfl, ?_, by (repeat (first | (with_reducible exact Below.refl _ _) | (with_reducible assumption) | (with_reducible apply bel_alloc) | (with_reducible apply bel_drew) | (with_reducible apply bel_drewN) | (with_reducible refine bel_trans ?_ (by with_reducible assumption)) | (with_reducible refine bel_trans ?_ (HF.out _)) | ((with_reducible refine bel_set3 ?_ ?_); rotate_left; omega)))⟩
      have hP := HJ.out.o
      rw [← HSD.out] at hP
      exact ((((hP.set (by omega) _).set (by omega) _).set (by omega) _).set (by omega) _).mono (by omega)
end Go.Proofs.YtbakkpabiknlmaaGreat
