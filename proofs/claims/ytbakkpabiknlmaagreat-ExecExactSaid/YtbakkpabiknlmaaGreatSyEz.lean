/- The law ExecExact. -/
import Derived.Test.YtbakkpabiknlmaaGreatSyEy
import Derived.Deep.RegionHeld3
import Derived.Laws.AppendOwn
namespace Go.Proofs.YtbakkpabiknlmaaGreat
open Go.RowKit
set_option linter.unusedSimpArgs false
set_option linter.unusedVariables false

theorem wpAnyH_takeD {P : Program} {ops : Array Oper} {Q : Exit → Act → World → Prop} {md : Region.Mode} {S : World → Prop} {i : Nat} {oi : Oper} {d : Option Tmp} {v : Value} {fuel : Nat} {listed : Array Bool} {a : Act} {w : World} (hi : ops[i]? = some oi) (hd : oi.dst = d)
    (hs : Region.noSelect ops = true) (hf : Region.free md ops listed i = true) (hr : (Region.ready md ops listed).contains i = true)
    (hQ : ∀ c a w, Q (.panic c) (a.put d v) w → Q (.panic c) a w) (hy : YieldsIf P ops S oi v a) (hS : S w)
    (h : wpAnyH P md ops Q S fuel (listed.setIfInBounds i true) (a.put d v) w) : wpAnyH P md ops Q S (fuel + 1) listed a w := by
  subst hd; exact wpAnyH_take hi hs hf hr hQ hy hS h
theorem wpAnyH_tk {P : Program} {ops : Array Oper} {Q : Exit → Act → World → Prop} {md : Region.Mode} {S : World → Prop} (i : Nat) (d : Option Tmp) {oi : Oper} {v : Value} {fuel : Nat} {listed : Array Bool} {a : Act} {w : World} (hi : ops[i]? = some oi) (hd : oi.dst = d)
    (hv : ∀ w, S w → (execOp a.eval oi).run P w = .ok (.value v) w) (h : wpAnyH P md ops Q S fuel (listed.setIfInBounds i true) (a.put d v) w)
    (hs : Region.noSelect ops = true := by kernel_rfl) (hf : Region.free md ops listed i = true := by kernel_rfl) (hr : (Region.ready md ops listed).contains i = true := by kernel_rfl) (hw : Region.wanted oi (yielded ops a.tmps) = true := by rfl)
    (hQ : ∀ c a w, Q (.panic c) (a.put d v) w → Q (.panic c) a w := by exact fun _ _ _ h => h) (hS : S w := by assumption) : wpAnyH P md ops Q S (fuel + 1) listed a w :=
  wpAnyH_takeD hi hd hs hf hr hQ (Or.inl ⟨hw, hv⟩) hS h
theorem wp_world {F : World → Prop} {w : World} (h : ∀ W, W = w → F W) : F w := h w rfl
theorem Blk.rng {w : World} {g : Nat} {t : TypeId} {cs : List Value} (h : Blk w g t cs) : w.rangeAt g 0 cs := fun j u hu => by rw [Nat.zero_add]; exact h.box.2 j u hu
theorem Blk.new1 (w : World) (t t' : TypeId) (cs ds : List Value) : Blk ((w.alloc (.cells cs.toArray t)).alloc (.cells ds.toArray t')) (w.heap.size + 1) t' ds := by
  have h := Blk.new (w.alloc (.cells cs.toArray t)) t' ds
  rwa [show (w.alloc (.cells cs.toArray t)).heap.size = w.heap.size + 1 by simp] at h
def wiB (i : Int) (n : Nat) : Nat := (i % 18446744073709551616).toNat % n
theorem wiB_lt (i : Int) {n : Nat} (h : 0 < n) : wiB i n < n := Nat.mod_lt _ h
set_option maxRecDepth 100000 in
set_option maxHeartbeats 1000000 in
theorem law0_Within (i : Int) (n y : Nat) (w : World) (h : 0 < n) (h2 : n ≤ 1000) (hy : wiB i n = y) : Calls Tryz.prog 9 #[.int .i64 i, .int .i64 (n : Int)] w fun e w' => e = .returned (.int .i64 (y : Int)) ∧ w = w' := by
  have hyn : y < n := by rw [← hy]; exact wiB_lt i h
  have HY := Lib.hid hy
  clear hy
  go_enter Tryz.func9, Tryz.ntmps9
  have e1 : wrap64 ((IntKind.u64.wrap i).tmod (n : Int)) = (y : Int) := by
    rw [IntKind.wrap_u64]
    obtain ⟨u, hu⟩ : ∃ u : Nat, i % 18446744073709551616 = (u : Int) := ⟨(i % 18446744073709551616).toNat, by omega⟩
    have hY := HY.out
    unfold wiB at hY
    rw [hu] at hY ⊢
    rw [Int.toNat_natCast] at hY
    rw [show ((u : Int).tmod (n : Int)) = ((u % n : Nat) : Int) from (Int.ofNat_tmod u n).symm, hY]
    unfold wrap64
    omega
  have HE := Lib.hid e1
  clear e1
  go_wp2_with fail
  go_ret
  exact ⟨ret_int HE.out, rfl⟩
/-- Where what may be executed is read. -/
structure ReadE (W : World) (pA : Option Addr) (pn : Nat) (qA : Option Addr) (qn : Nat) (sA : Option Addr) (sn : Nat) (p : List PairD) (q : List AcctD) (s : List Int) : Prop where
  p : PairsR W pA pn p
  q : AcctsR W qA qn q
  s : IntsR W sA sn s
theorem ReadE.up {W W' : World} {pA qA sA : Option Addr} {pn qn sn : Nat} {p q s} (h : ReadE W pA pn qA qn sA sn p q s) (hb : Below W.heap.size W W') : ReadE W' pA pn qA qn sA sn p q s := ⟨h.p.up hb, h.q.up hb, h.s.up hb⟩
structure FarE (pA : Option Addr) (pn : Nat) (qA : Option Addr) (qn : Nat) (sA : Option Addr) (sn g : Nat) : Prop where
  p : FarN pA pn g
  q : FarN qA qn g
  s : FarN sA sn g
theorem RowV.gr {w w' : World} {A : Option Addr} {n k g : Nat} {xs : List Value} (h : RowV w A n k xs) (hf : FarN A n g) (hg : w.grownBy w' (some g)) : RowV w' A n k xs := by
  refine ⟨h.1, h.2.1, fun hn => ?_⟩
  obtain ⟨b, off, e, hb, hc⟩ := h.2.2 hn
  have hne : b ≠ g := (hf.resolve_left (by omega)) b off none e
  exact ⟨b, off, e, Nat.lt_of_lt_of_le hb hg.size, fun j v hj => hg.cell (hc j v hj) (fun e => hne (by simpa using e))⟩
theorem PairsR.gr {w w' : World} {A : Option Addr} {n g : Nat} {l : List PairD} (h : PairsR w A n l) (hf : FarN A n g) (hg : w.grownBy w' (some g)) : PairsR w' A n l := ⟨h.1, RowV.gr h.2 hf hg⟩
theorem AcctsR.gr {w w' : World} {A : Option Addr} {n g : Nat} {l : List AcctD} (h : AcctsR w A n l) (hf : FarN A n g) (hg : w.grownBy w' (some g)) : AcctsR w' A n l := ⟨h.1, RowV.gr h.2 hf hg⟩
theorem IntsR.gr {w w' : World} {A : Option Addr} {n g : Nat} {l : List Int} (h : IntsR w A n l) (hf : FarN A n g) (hg : w.grownBy w' (some g)) : IntsR w' A n l := by
  refine ⟨h.1, h.2.1, fun hn => ?_⟩
  obtain ⟨b, off, e, hb, hc⟩ := h.2.2 hn
  have hne : b ≠ g := (hf.resolve_left (by omega)) b off none e
  exact ⟨b, off, e, Nat.lt_of_lt_of_le hb hg.size, fun j hj => hg.cell (hc j hj) (fun e => hne (by simpa using e))⟩
theorem ReadE.gr {W W' : World} {pA qA sA : Option Addr} {pn qn sn g : Nat} {p q s} (h : ReadE W pA pn qA qn sA sn p q s) (hf : FarE pA pn qA qn sA sn g) (hg : W.grownBy W' (some g)) : ReadE W' pA pn qA qn sA sn p q s := ⟨h.p.gr hf.p hg, h.q.gr hf.q hg, h.s.gr hf.s hg⟩
theorem gr_bel {a b c : World} {row : Option Nat} {n : Nat} (h : a.grownBy b row) (k : Below n b c) (hn : a.heap.size ≤ n) : a.grownBy c row := ⟨k.os.trans h.os, k.tape.trans h.tape, k.output.trans h.output, Nat.le_trans h.size k.size, fun i hi hr => (k.block i (by omega)).trans (h.block i hi hr)⟩
theorem ReadE.nil (W : World) (A B C : Option Addr) : ReadE W A 0 B 0 C 0 [] [] [] := ⟨⟨rfl, rfl, by omega, fun h => absurd h (by omega)⟩, ⟨rfl, rfl, by omega, fun h => absurd h (by omega)⟩, IntsR.nil _ _⟩
theorem ExO.rd {w : World} {B : Nat} {pA qA sA : Option Addr} {pn pc qn qc sn sc : Nat} {p q s} (h : ExO w B (.slice pA pn pc) (.slice qA qn qc) (.slice sA sn sc) p q s) (h1 : p.length = pn) (h2 : q.length = qn) (h3 : s.length = sn) (b1 : pn ≤ 1000000) (b2 : qn ≤ 1000000) (b3 : sn ≤ 1000000) : ReadE w pA pn qA qn sA sn p q s := by
  obtain ⟨A1, c1, e1, r1⟩ := nmP h.p h1 (by omega)
  obtain ⟨A2, c2, e2, r2⟩ := nmA h.a h2 (by omega)
  obtain ⟨A3, c3, e3, r3⟩ := nmI h.s h3 (by omega)
  injection e1 with e1 _ _; injection e2 with e2 _ _; injection e3 with e3 _ _
  subst e1; subst e2; subst e3
  exact ⟨r1, r2, r3⟩
theorem ExO.far {w : World} {B g : Nat} {pA qA sA : Option Addr} {pn pc qn qc sn sc : Nat} {p q s} (h : ExO w B (.slice pA pn pc) (.slice qA qn qc) (.slice sA sn sc) p q s) (hg : g < B) : FarE pA pn qA qn sA sn g := ⟨h.p.farN hg, h.a.farN hg, h.s.farN hg⟩
theorem OwnI.cap {w : World} {B : Nat} {A : Option Addr} {n c : Nat} {l : List Int} (h : OwnI w B (.slice A n c) l) : n ≤ c := by
  rcases own_shape h with ⟨e, h0⟩ | ⟨g, c2, e, _, h1⟩
  · injection e with e1 e2 e3; omega
  · injection e with e1 e2 e3; omega
/-- The round's still data: the script's box, the act, what is executed (x), its copy (in), what they hold. -/
structure EnvE (W : World) (gS gx gi ga : Nat) (scr xs is act : List Value) (pA qA sA iA jA kA A5 C5 : Option Addr) (pn qn sn m5 k5 : Nat) (p : List PairD) (q : List AcctD) (s : List Int) (a : ActD) : Prop where
  bs : BoxR W gS scr
  bx : Blk W gx 28 xs
  bi : Blk W gi 28 is
  ba : Blk W ga 40 act
  rx : ReadE W pA pn qA qn sA sn p q s
  ri : ReadE W iA pn jA qn kA sn p q s
  hi : IntsR W A5 m5 a.l
  hh : HeldsR W C5 k5 a.h
theorem EnvE.up {W W' : World} {gS gx gi ga : Nat} {scr xs is act : List Value} {pA qA sA iA jA kA A5 C5 : Option Addr} {pn qn sn m5 k5 : Nat} {p q s a} (h : EnvE W gS gx gi ga scr xs is act pA qA sA iA jA kA A5 C5 pn qn sn m5 k5 p q s a) (hb : Below W.heap.size W W') : EnvE W' gS gx gi ga scr xs is act pA qA sA iA jA kA A5 C5 pn qn sn m5 k5 p q s a :=
  ⟨h.bs.up hb, h.bx.up hb, h.bi.up hb, h.ba.up hb, h.rx.up hb, h.ri.up hb, h.hi.up hb, h.hh.up hb⟩
theorem OwnHs.low4 {w : World} {B b : Nat} {v : Value} {l : List HeldD} (h : OwnHs w B v l) (hb : b < B) (x0 x1 x2 x3 : Value) : OwnHs ((((w.setCell ⟨b, 0, none⟩ x0).setCell ⟨b, 1, none⟩ x1).setCell ⟨b, 2, none⟩ x2).setCell ⟨b, 3, none⟩ x3) B v l := (((h.low hb).low hb).low hb).low hb
theorem ExO.set4 {w : World} {B b : Nat} {vp va vs : Value} {p q s} (h : ExO w B vp va vs p q s) (hb : b < B) (x0 x1 x2 x3 : Value) : ExO ((((w.setCell ⟨b, 0, none⟩ x0).setCell ⟨b, 1, none⟩ x1).setCell ⟨b, 2, none⟩ x2).setCell ⟨b, 3, none⟩ x3) B vp va vs p q s := (((h.set hb x0).set hb x1).set hb x2).set hb x3
theorem bel_set4 {n : Nat} {w x : World} {b : Nat} (h : Below n w x) (hb : n ≤ b) (x0 x1 x2 x3 : Value) : Below n w ((((x.setCell ⟨b, 0, none⟩ x0).setCell ⟨b, 1, none⟩ x1).setCell ⟨b, 2, none⟩ x2).setCell ⟨b, 3, none⟩ x3) := (((h.setCell (p := ⟨b, 0, none⟩) hb x0).setCell (p := ⟨b, 1, none⟩) hb x1).setCell (p := ⟨b, 2, none⟩) hb x2).setCell (p := ⟨b, 3, none⟩) hb x3
theorem grown_set4 {w x : World} {g : Nat} (h : w.grownBy x (some g)) (x0 x1 x2 x3 : Value) : w.grownBy ((((x.setCell ⟨g, 0, none⟩ x0).setCell ⟨g, 1, none⟩ x1).setCell ⟨g, 2, none⟩ x2).setCell ⟨g, 3, none⟩ x3) (some g) := grown_set (grown_set (grown_set (grown_set h rfl) rfl) rfl) rfl
theorem Blk.far4 {w : World} {g b : Nat} {t : TypeId} {cs : List Value} (h : Blk w g t cs) (hne : g ≠ b) (x0 x1 x2 x3 : Value) : Blk ((((w.setCell ⟨b, 0, none⟩ x0).setCell ⟨b, 1, none⟩ x1).setCell ⟨b, 2, none⟩ x2).setCell ⟨b, 3, none⟩ x3) g t cs := (((h.far (p := ⟨b, 0, none⟩) hne x0).far (p := ⟨b, 1, none⟩) hne x1).far (p := ⟨b, 2, none⟩) hne x2).far (p := ⟨b, 3, none⟩) hne x3
theorem ReadE.far4 {w : World} {b : Nat} {pA qA sA : Option Addr} {pn qn sn : Nat} {p q s} (h : ReadE w pA pn qA qn sA sn p q s) (hf : FarE pA pn qA qn sA sn b) (x0 x1 x2 x3 : Value) : ReadE ((((w.setCell ⟨b, 0, none⟩ x0).setCell ⟨b, 1, none⟩ x1).setCell ⟨b, 2, none⟩ x2).setCell ⟨b, 3, none⟩ x3) pA pn qA qn sA sn p q s := h.gr hf (grown_set4 (World.grownBy.refl _ _) _ _ _ _)
theorem Blk.bel {w w' : World} {g n : Nat} {t : TypeId} {cs : List Value} (h : Blk w g t cs) (hb : Below n w w') (hg : g < n) : Blk w' g t cs := h.of_heap (hb.block g hg)
theorem step_again (l : List HeldD) : ∀ (ds : List Int) (p : List PairD) (q : List AcctD), stepR l (ds.drop (stepR l ds p q).2) (stepR l ds p q).1.1 (stepR l ds p q).1.2 = ((stepR l ds p q).1, 0)
  | [], p, q => by simp [stepR]
  | d :: ds, p, q => by
    by_cases h : khasH l d = true
    · have ih := step_again l ds (runT (hth l (kposH l d)).b.tx p q).1 (runT (hth l (kposH l d)).b.tx p q).2
      have e : stepR l (d :: ds) p q = ((stepR l ds (runT (hth l (kposH l d)).b.tx p q).1 (runT (hth l (kposH l d)).b.tx p q).2).1, (stepR l ds (runT (hth l (kposH l d)).b.tx p q).1 (runT (hth l (kposH l d)).b.tx p q).2).2 + 1) := by
        conv => lhs; unfold stepR
        rw [if_pos h]
      rw [e]
      simpa using ih
    · have e : stepR l (d :: ds) p q = ((p, q), 0) := by
        conv => lhs; unfold stepR
        rw [if_neg h]
      rw [e]
      simpa using e
theorem exB_step {l : List HeldD} {p FP : List PairD} {q FQ : List AcctD} {s : List Int} {cn N : Nat} (h : exB p q s (cn : Int) = true) (hst : stepR l (s.drop cn) p q = ((FP, FQ), N)) : exB FP FQ s ((cn + N : Nat) : Int) = true ∧ stepR l (s.drop (cn + N)) FP FQ = ((FP, FQ), 0) ∧ cn + N ≤ s.length := by
  have h1 := exB_iff.1 h
  have h2 := stepR_may l (s.drop cn) h1.1
  have h3 := step_again l (s.drop cn) p q
  rw [hst] at h2 h3
  have hc : cn ≤ s.length := by have := h1.2.2.2; omega
  have hl : cn + N ≤ s.length := by have := h2.2; simp at this; omega
  refine ⟨exB_iff.2 ⟨h2.1, h1.2.1, by omega, by omega⟩, ?_, hl⟩
  simpa [List.drop_drop] using h3
theorem exB_push {p : List PairD} {q : List AcctD} {s l : List Int} {c : Int} (h : exB p q s c = true) (hl : betS l 1 65536 = true) : exB p q (s ++ freshL s l) c = true := by
  have h1 := exB_iff.1 h
  exact exB_iff.2 ⟨h1.1, h1.2.1.push (betD_iff.1 hl), h1.2.2.1, by have := h1.2.2.2; simp; omega⟩
theorem BoxR.set4F {w : World} {g b : Nat} {cs : List Value} (h : BoxR w g cs) (hne : g ≠ b) (x0 x1 x2 x3 : Value) : BoxR ((((w.setCell ⟨b, 0, none⟩ x0).setCell ⟨b, 1, none⟩ x1).setCell ⟨b, 2, none⟩ x2).setCell ⟨b, 3, none⟩ x3) g cs := by
  refine ⟨by simpa using h.1, fun j v hj => ?_⟩
  rw [← h.2 j v hj]
  rw [World.cell?_of_block (Below.heap_setCell _ _ _ _ hne), World.cell?_of_block (Below.heap_setCell _ _ _ _ hne), World.cell?_of_block (Below.heap_setCell _ _ _ _ hne), World.cell?_of_block (Below.heap_setCell _ _ _ _ hne)]
theorem ref0_DigestsB (A : Option Addr) (n c : Nat) (l : List Int) (y : Bool) (w : World) (hl : IntsR w A n l) (hy : betS l 1 65536 = y) : Calls Tryz.prog 20 #[.slice A n c] w fun e w' => e = .returned (.bool y) ∧ Below w.heap.size w w' :=
  (ref0_Digests A n c l w hl).mono fun e w' ⟨h1, h2⟩ => ⟨by rw [h1, hy], h2 ▸ Below.refl _ _⟩
theorem PushO.set4 {w : World} {B b : Nat} {vp va vs vf : Value} {p q s F} (h : PushO w B vp va vs vf p q s F) (hb : b < B) (x0 x1 x2 x3 : Value) : PushO ((((w.setCell ⟨b, 0, none⟩ x0).setCell ⟨b, 1, none⟩ x1).setCell ⟨b, 2, none⟩ x2).setCell ⟨b, 3, none⟩ x3) B vp va vs vf p q s F := (((h.set hb x0).set hb x1).set hb x2).set hb x3
set_option maxRecDepth 100000 in
set_option maxHeartbeats 16000000 in
theorem law_ExecExact (P : ScrP) (D : ScrD) (w : World) (h : ScrR w P D) :
    Calls Tryz.prog 3 #[P.val D] w fun e w' => e = .returned (.bool true) ∧ Below w.heap.size w w' := by
  obtain ⟨⟨uA, un, uc⟩, ⟨vA, vn, vc⟩, ⟨tA, tn, tc⟩, ⟨lA, ln, lc⟩⟩ := P
  have H := Lib.hid h
  have HP : Hid (PairsR w uA un D.e.p) := Lib.hid h.p
  have HQ : Hid (AcctsR w vA vn D.e.q) := Lib.hid h.q
  have HS : Hid (IntsR w tA tn D.e.s) := Lib.hid h.s
  have HL : Hid (ActsR w lA ln D.l) := Lib.hid h.l
  have hsc : tn ≤ tc := h.sc
  clear h
  obtain ⟨ec, hec⟩ : ∃ z, D.e.c = z := ⟨_, rfl⟩
  obtain ⟨yE, hyE⟩ : ∃ y, exB D.e.p D.e.q D.e.s ec = y := ⟨_, rfl⟩
  have HEC := Lib.hid hec
  have HYE := Lib.hid hyE
  have hheavy := law23_heavy ⟨⟨uA, un, uc⟩, ⟨vA, vn, vc⟩, ⟨tA, tn, tc⟩, ⟨lA, ln, lc⟩⟩ D
  show Calls Tryz.prog 3 #[.agg #[.slice uA un uc, .slice vA vn vc, .slice tA tn tc, .int .i64 D.e.c, .slice lA ln lc]] w _
  simp only [ScrP.val] at hheavy
  rw [hec] at hheavy ⊢
  have HHV := Lib.hid hheavy
  clear hheavy hec hyE
  go_enter Tryz.func3, Tryz.ntmps3
  go_wp2_with fail
  refine (HHV.out _ (H.out.up (by (repeat (first | (with_reducible exact Below.refl _ _) | (with_reducible assumption) | (with_reducible apply bel_alloc) | (with_reducible apply bel_drew) | (with_reducible apply bel_drewN) | (with_reducible refine bel_trans ?_ (by with_reducible assumption)) | (with_reducible refine bel_trans ?_ (HF.out _)) | (with_reducible refine bel_set ?_ (by simp) _) | (with_reducible refine bel_set ?_ (by simp; omega) _) | (with_reducible refine bel_set ?_ (by omega) _)))))).mono ?_
  rintro e w1 ⟨x, rfl, hx, hb1⟩
  cases x
  case true =>
    clear hx
    go_wp2_with fail
    go_ret
    exact ⟨rfl, by (repeat (first | (with_reducible exact Below.refl _ _) | (with_reducible assumption) | (with_reducible apply bel_alloc) | (with_reducible apply bel_drew) | (with_reducible apply bel_drewN) | (with_reducible refine bel_trans ?_ (by with_reducible assumption)) | (with_reducible refine bel_trans ?_ (HF.out _)) | (with_reducible refine bel_set ?_ (by simp) _) | (with_reducible refine bel_set ?_ (by simp; omega) _) | (with_reducible refine bel_set ?_ (by omega) _)))⟩
  case false =>
  have hLt := hx rfl
  have hp4 : un ≤ 4000 := hLt.p
  have hq4 : vn ≤ 4000 := hLt.q
  have hs3 : tn ≤ 300 := hLt.s
  have hl1 : ln ≤ 100 := hLt.l
  have HLT := Lib.hid hLt
  have hB1 : BoxR w1 w.heap.size [.slice uA un uc, .slice vA vn vc, .slice tA tn tc, .int .i64 ec, .slice lA ln lc] := (BoxR.new w [.slice uA un uc, .slice vA vn vc, .slice tA tn tc, .int .i64 ec, .slice lA ln lc] 31).up hb1
  have hbw1 : Below w.heap.size w w1 := by (repeat (first | (with_reducible exact Below.refl _ _) | (with_reducible assumption) | (with_reducible apply bel_alloc) | (with_reducible apply bel_drew) | (with_reducible apply bel_drewN) | (with_reducible refine bel_trans ?_ (by with_reducible assumption)) | (with_reducible refine bel_trans ?_ (HF.out _)) | (with_reducible refine bel_set ?_ (by simp) _) | (with_reducible refine bel_set ?_ (by simp; omega) _) | (with_reducible refine bel_set ?_ (by omega) _)))
  have HB1 := Lib.hid hB1
  have hg1 := hB1.1
  have b_0 := (hB1).2 0 _ rfl; have b_1 := (hB1).2 1 _ rfl; have b_2 := (hB1).2 2 _ rfl; have b_3 := (hB1).2 3 _ rfl; have b_4 := (hB1).2 4 _ rfl
  clear hx hLt hb1 hB1
  have hB1' := HB1.out
  go_upto_region 4 with (go_at_call 5; refine (ref0_CopyExec uA vA tA un uc vn vc tn tc D.e.p D.e.q D.e.s ec _ (HP.out.up hbw1) (HQ.out.up hbw1) (HS.out.up hbw1) (by omega) (by omega) (by omega)).mono ?_; rintro e w2 ⟨vp, va, vs, rfl, hO, hb2⟩; obtain ⟨pA, pc, rfl, -⟩ := nmP hO.p HP.out.1 (by omega); obtain ⟨qA, qc, rfl, -⟩ := nmA hO.a HQ.out.1 (by omega); obtain ⟨sA, sc, rfl, -⟩ := nmI hO.s HS.out.1 (by omega); have HO2 := Lib.hid hO; clear hO)
  clear b_0 b_1 b_2 b_3 b_4 hB1' hg1
  refine wp_world (fun W2 hW2 => ?_)
  obtain ⟨gx, hgx⟩ : ∃ g, g = w2.heap.size := ⟨_, rfl⟩
  have HX2 : Hid (Blk W2 gx 28 [.slice pA un pc, .slice qA vn qc, .slice sA tn sc, .int .i64 ec]) := Lib.hid (by rw [hW2, hgx]; exact Blk.new w2 28 [.slice pA un pc, .slice qA vn qc, .slice sA tn sc, .int .i64 ec])
  have hb22 : Below w2.heap.size w2 W2 := by rw [hW2]; exact bel_alloc (Below.refl _ _)
  have hgxw : w.heap.size ≤ gx := by rw [hgx]; have h1 := hbw1.size; have h2 := hb2.size; omega
  have hgSX : w.heap.size ≠ gx := by rw [hgx]; have h1 := HB1.out.1; have h2 := hb2.size; omega
  rw [← hgx]
  clear hW2 hgx
  have hsk : tn ≤ sc := HO2.out.s.cap
  have HR2 : Hid (ReadE W2 pA un qA vn sA tn D.e.p D.e.q D.e.s) := Lib.hid ((HO2.out.up hb22).rd HP.out.1 HQ.out.1 HS.out.1 (by omega) (by omega) (by omega))
  have hb12 := bel_trans hb2 hb22
  have HB2 := Lib.hid (HB1.out.up hb12)
  have hbw2 := bel_trans hbw1 hb12
  clear HO2 hb2 hb22 hb12 HB1 hbw1 HHV
  have xl := HX2.out.lt
  have x_0 := (HX2.out.box).2 0 _ rfl; have x_1 := (HX2.out.box).2 1 _ rfl; have x_2 := (HX2.out.box).2 2 _ rfl; have x_3 := (HX2.out.box).2 3 _ rfl
  cases yE
  case false =>
    have HYE2 : Hid (exB D.e.p D.e.q D.e.s ec = false) := HYE
    go_wp2_with (first | (go_at_call 6; refine (ref22_Exec pA qA sA un pc vn qc tn sc D.e.p D.e.q D.e.s ec _ _ HR2.out.p HR2.out.q HR2.out.s hsk (by omega) HYE2.out).mono ?_; rintro e w3 ⟨rfl, hb3⟩; have HX3 := Lib.hid (HX2.out.up hb3); have HR3 := Lib.hid (HR2.out.up hb3); have HB3 := Lib.hid (HB2.out.up hb3); have hbw3 := bel_trans hbw2 hb3; clear xl x_0 x_1 x_2 x_3; have xl := HX3.out.lt; have x_0 := (HX3.out.box).2 0 _ rfl; have x_1 := (HX3.out.box).2 1 _ rfl; have x_2 := (HX3.out.box).2 2 _ rfl; have x_3 := (HX3.out.box).2 3 _ rfl) | (go_at_call 8; refine (exec_Check pA qA sA un pc vn qc tn sc D.e.p D.e.q D.e.s ec false 1 _ HR3.out.p HR3.out.q HR3.out.s HYE2.out (by rfl)).mono ?_; rintro e w4 ⟨rfl, hb4⟩; have HX4 := Lib.hid (HX3.out.up hb4); have HR4 := Lib.hid (HR3.out.up hb4); have HB4 := Lib.hid (HB3.out.up hb4); have hbw4 := bel_trans hbw3 hb4) | (go_at_call 7; refine (law23_num _ _).mono ?_; rintro e w' ⟨rfl, rfl⟩))
    clear xl x_0 x_1 x_2 x_3 HX2 HR2 HB2 hbw2 HX3 HR3 HB3 hbw3 hb3 hb4
    go_loopw [5] (fun ix wr => ∃ (k : Nat) (pA : Option Addr) (pn pc : Nat) (qA : Option Addr) (qn qc : Nat) (sA : Option Addr) (sn sc : Nat) (p : List PairD) (q : List AcctD) (s : List Int) (c : Int), k ≤ ln ∧ ix = .int .i64 k ∧ Hid (Blk wr gx 28 [.slice pA pn pc, .slice qA qn qc, .slice sA sn sc, .int .i64 c]) ∧ Hid (ReadE wr pA pn qA qn sA sn p q s) ∧ Hid (exB p q s c = false) ∧ pn ≤ 4096 ∧ qn ≤ 4096 ∧ sn ≤ 300 + 6000 * k ∧ sn ≤ sc ∧ k ≤ 12 ∧ Hid (BoxR wr w.heap.size [.slice uA un uc, .slice vA vn vc, .slice tA tn tc, .int .i64 ec, .slice lA ln lc]) ∧ Below w.heap.size w wr) (fun ix _ => ln - (intOf ix).toNat)
    case atStart => exact ⟨0, pA, un, pc, qA, vn, qc, sA, tn, sc, D.e.p, D.e.q, D.e.s, ec, Nat.zero_le _, rfl, HX4, HR4, HYE2, by omega, by omega, by omega, hsk, by omega, HB4, hbw4⟩
    case round =>
      clear HX4 HR4 HB4 hbw4 HYE2 hsk
      obtain ⟨k, pA, pn, pc, qA, qn, qc, sA, sn, sc, p, q, s, c, hk, rfl, HX, HRX, HEX, hp4', hq4', hs4', hsk, hk12, HB, hbw⟩ := hrel
      (obtain ⟨wk, hwk⟩ : ∃ x, x = wr := ⟨_, rfl⟩); subst hwk
      have b_0 := (HB.out).2 0 _ rfl; have b_1 := (HB.out).2 1 _ rfl; have b_2 := (HB.out).2 2 _ rfl; have b_3 := (HB.out).2 3 _ rfl; have b_4 := (HB.out).2 4 _ rfl
      have hg0 := HB.out.1
      by_cases hlt : k < ln ∧ k < 12
      · skip
        obtain ⟨hlt1, hlt2⟩ := hlt
        obtain ⟨ab, aoff, rfl, hab, hac⟩ := (HL.out.up hbw).2.2 (by omega)
        obtain ⟨A5, m5, d5, C5, k5, e5, c0, c1, c2, hI, hH⟩ := hac k hlt1
        obtain ⟨a, ha⟩ : ∃ a, acth D.l k = a := ⟨_, rfl⟩
        rw [ha] at c0 hI hH
        have ham : a ∈ D.l := by rw [← ha]; have := HL.out.1; simp [acth, show k < D.l.length by omega]
        have hm6 : m5 ≤ 6000 := by rw [← hI.1]; exact HLT.out.li a ham
        have hk6 : k5 ≤ 6000 := by rw [← hH.1]; exact HLT.out.hi a ham
        have HBH : Hid (BigH a.h) := Lib.hid ⟨by have := HLT.out.hi a ham; omega, fun x hx => by have := HLT.out.ti a ham x hx; omega⟩
        obtain ⟨ad, had⟩ : ∃ x, a.d = x := ⟨_, rfl⟩
        rw [had] at c0
        have HI0 := Lib.hid hI
        have HH0 := Lib.hid hH
        clear hac ha hI hH ham had
        go_upto_region 13 with fail
        clear c0 c1 c2 b_0 b_1 b_2 b_3 b_4
        refine wp_world (fun W1 hW1 => ?_)
        obtain ⟨ga, hga⟩ : ∃ g, g = wk.heap.size := ⟨_, rfl⟩
        have HA1 : Hid (Blk W1 ga 40 [.int .i64 ad, .slice A5 m5 d5, .slice C5 k5 e5]) := Lib.hid (by rw [hW1, hga]; exact Blk.new wk 40 [.int .i64 ad, .slice A5 m5 d5, .slice C5 k5 e5])
        have hb01 : Below wk.heap.size wk W1 := by rw [hW1]; exact bel_alloc (Below.refl _ _)
        rw [← hga]
        clear hW1 hga hab hg0
        have HX1 := Lib.hid (HX.out.up hb01)
        have HRX1 := Lib.hid (HRX.out.up hb01)
        have HB1 := Lib.hid (HB.out.up hb01)
        have HI1 := Lib.hid (HI0.out.up hb01)
        have HH1 := Lib.hid (HH0.out.up hb01)
        have hbw1 := bel_trans hbw hb01
        clear HX HRX HB HI0 HH0 hbw hb01
        have xl := HX1.out.lt
        have x_0 := (HX1.out.box).2 0 _ rfl; have x_1 := (HX1.out.box).2 1 _ rfl; have x_2 := (HX1.out.box).2 2 _ rfl; have x_3 := (HX1.out.box).2 3 _ rfl
        go_upto_region 14 with (go_at_call 5; refine (ref0_CopyExec pA qA sA pn pc qn qc sn sc p q s c _ HRX1.out.p HRX1.out.q HRX1.out.s (by omega) (by omega) (by omega)).mono ?_; rintro e w2 ⟨vp, va, vs, rfl, hO, hb2⟩; obtain ⟨iA, ic, rfl, -⟩ := nmP hO.p HRX1.out.p.1 (by omega); obtain ⟨jA, jc, rfl, -⟩ := nmA hO.a HRX1.out.q.1 (by omega); obtain ⟨kA, kc, rfl, -⟩ := nmI hO.s HRX1.out.s.1 (by omega); have HO2 := Lib.hid hO; clear hO)
        clear xl x_0 x_1 x_2 x_3
        refine wp_world (fun W2 hW2 => ?_)
        obtain ⟨gi, hgi⟩ : ∃ g, g = w2.heap.size := ⟨_, rfl⟩
        have HI2 : Hid (Blk W2 gi 28 [.slice iA pn ic, .slice jA qn jc, .slice kA sn kc, .int .i64 c]) := Lib.hid (by rw [hW2, hgi]; exact Blk.new w2 28 [.slice iA pn ic, .slice jA qn jc, .slice kA sn kc, .int .i64 c])
        have hb22 : Below w2.heap.size w2 W2 := by rw [hW2]; exact bel_alloc (Below.refl _ _)
        rw [← hgi]
        clear hW2 hgi
        have hb12 := bel_trans hb2 hb22
        have hkc : sn ≤ kc := HO2.out.s.cap
        have HE2 : Hid (EnvE W2 w.heap.size gx gi ga [.slice uA un uc, .slice vA vn vc, .slice tA tn tc, .int .i64 ec, .slice (some ⟨ab, aoff, none⟩) ln lc] [.slice pA pn pc, .slice qA qn qc, .slice sA sn sc, .int .i64 c] [.slice iA pn ic, .slice jA qn jc, .slice kA sn kc, .int .i64 c] [.int .i64 ad, .slice A5 m5 d5, .slice C5 k5 e5] pA qA sA iA jA kA A5 C5 pn qn sn m5 k5 p q s a) := Lib.hid ⟨HB1.out.up hb12, HX1.out.up hb12, HI2.out, HA1.out.up hb12, HRX1.out.up hb12, (HO2.out.up hb22).rd HRX1.out.p.1 HRX1.out.q.1 HRX1.out.s.1 (by omega) (by omega) (by omega), HI1.out.up hb12, HH1.out.up hb12⟩
        have hbw2 := bel_trans hbw1 hb12
        have HPL : Hid (p.length = pn ∧ q.length = qn ∧ s.length = sn ∧ a.l.length = m5 ∧ a.h.length = k5) := Lib.hid ⟨HRX1.out.p.1, HRX1.out.q.1, HRX1.out.s.1, HI1.out.1, HH1.out.1⟩
        clear HB1 HX1 HI2 HA1 HRX1 HO2 HI1 HH1 hb2 hb22 hb12 hbw1
        go_upto_region 18 with fail
        refine wp_world (fun W3 hW3 => ?_)
        obtain ⟨gw, hgw⟩ : ∃ g, g = W2.heap.size := ⟨_, rfl⟩
        obtain ⟨gy, hgy⟩ : ∃ g, g = W2.heap.size + 1 := ⟨_, rfl⟩
        have HW3 : Hid (Blk W3 gw 28 [.slice none 0 0, .slice none 0 0, .slice none 0 0, .int .i64 0]) := Lib.hid (by rw [hW3, hgw]; exact (Blk.new W2 28 [.slice none 0 0, .slice none 0 0, .slice none 0 0, .int .i64 0]).up (bel_alloc (Below.refl _ _)))
        have HY3 : Hid (Blk W3 gy 28 [.slice none 0 0, .slice none 0 0, .slice none 0 0, .int .i64 0]) := Lib.hid (by rw [hW3, hgy]; exact Blk.new1 W2 28 28 [.slice none 0 0, .slice none 0 0, .slice none 0 0, .int .i64 0] [.slice none 0 0, .slice none 0 0, .slice none 0 0, .int .i64 0])
        have hbc3 : Below W2.heap.size W2 W3 := by rw [hW3]; exact bel_alloc (bel_alloc (Below.refl _ _))
        rw [← hgy, ← hgw]
        have hgw2 : W2.heap.size ≤ gw := by omega
        have hgy2 : W2.heap.size ≤ gy := by omega
        have hwy : gw ≠ gy := by omega
        have hwz : gw < W3.heap.size := HW3.out.lt
        have hyz : gy < W3.heap.size := HY3.out.lt
        clear hW3 hgw hgy
        obtain ⟨r, hr⟩ : ∃ y, wiB ad 5 = y := ⟨_, rfl⟩
        have hr5 : r < 5 := by rw [← hr]; exact wiB_lt _ (by omega)
        have HRr := Lib.hid hr
        clear hr
        have al := (HE2.out.up hbc3).ba.lt
        have a_0 := ((HE2.out.up hbc3).ba.box).2 0 _ rfl; have a_1 := ((HE2.out.up hbc3).ba.box).2 1 _ rfl; have a_2 := ((HE2.out.up hbc3).ba.box).2 2 _ rfl
        go_upto_region 29 with (go_at_call 9; refine (law0_Within ad 5 r _ (by omega) (by omega) HRr.out).mono ?_; rintro e w' ⟨rfl, rfl⟩)
        by_cases h4 : r = 4
        · skip
          have z2 : ((r : Int) == 2) = false := by simp; omega
          have z3 : ((r : Int) == 3) = false := by simp; omega
          have z4 : ((r : Int) == 4) = true := by simp [h4]
          clear h4
          as_aux_lemma =>
            go_upto_region 47 with fail
            obtain ⟨w4, hw4⟩ : ∃ x, x = W3 := ⟨_, rfl⟩
            subst hw4
            have hbc4 := hbc3
            have HNO : Hid (¬ (exB p q s c = true ∧ hdB a.h = true)) := Lib.hid (fun g => by rw [HEX.out] at g; cases g.1)
            have hE4 := HE2.out.up hbc4
            have il := hE4.bi.lt
            have i_0 := (hE4.bi.box).2 0 _ rfl; have i_1 := (hE4.bi.box).2 1 _ rfl; have i_2 := (hE4.bi.box).2 2 _ rfl; have i_3 := (hE4.bi.box).2 3 _ rfl
            clear hE4
            go_upto_region 48 with (go_at_call 16; refine (exec_Lacks_bad iA jA kA C5 pn ic qn jc sn kc k5 e5 c p q s a.h _ (HE2.out.up hbc4).ri.p (HE2.out.up hbc4).ri.q (HE2.out.up hbc4).ri.s (HE2.out.up hbc4).hh HNO.out (by omega) (by omega) hkc).mono ?_; rintro e w5 ⟨rfl, hb5⟩)
            clear al a_0 a_1 a_2
            clear il i_0 i_1 i_2 i_3
            have hbc5 := bel_trans hbc4 hb5
            have hz9 : Below w5.heap.size w5 w5 := Below.refl _ _
            go_upto_region 50 with (first | (go_at_call 7; refine (law23_num _ _).mono ?_; rintro e w' ⟨rfl, rfl⟩) | (go_at_call 17; refine (ref0_EqNumbers_same none 0 0 [] none 0 0 _ (IntsR.nil _ _) (IntsR.nil _ _)).mono ?_; rintro e w7 ⟨rfl, hb7⟩; have hbc7 := bel_trans hbc5 hb7; have hE7 := HE2.out.up hbc7; have il := hE7.bi.lt; have i_0 := (hE7.bi.box).2 0 _ rfl; have i_1 := (hE7.bi.box).2 1 _ rfl; have i_2 := (hE7.bi.box).2 2 _ rfl; have i_3 := (hE7.bi.box).2 3 _ rfl; have xl := hE7.bx.lt; have x_0 := (hE7.bx.box).2 0 _ rfl; have x_1 := (hE7.bx.box).2 1 _ rfl; have x_2 := (hE7.bx.box).2 2 _ rfl; have x_3 := (hE7.bx.box).2 3 _ rfl; clear hE7) | (go_at_call 18; refine (ref0_EqExec iA jA kA pA qA sA pn ic qn jc sn kc pn pc qn qc sn sc p q s _ _ (HE2.out.up hbc7).ri.p (HE2.out.up hbc7).ri.q (HE2.out.up hbc7).ri.s (HE2.out.up hbc7).rx.p (HE2.out.up hbc7).rx.q (HE2.out.up hbc7).rx.s).mono ?_; rintro e w8 ⟨rfl, hb8⟩))
            clear il i_0 i_1 i_2 i_3
            clear xl x_0 x_1 x_2 x_3
            have hb58 := bel_trans hb7 hb8
            have hbc8 := bel_trans hbc5 hb58
            go_wp2_with (go_at_call 19; refine (law0_Numbers (.slice none 0 0) [] w5.heap.size _ (OwnI.up (OwnI.nil _ _) hb58) (by simp) (Nat.le_trans (Nat.le_refl _) hb58.size)).mono ?_; rintro e w9 ⟨rfl, hb9⟩)
            have hbc9 : Below W2.heap.size W2 w9 := Below.trans hbc8 (hb9.mono hbc5.size)
            (first | (go_round; (case rel => exact ⟨k + 1, pA, pn, pc, qA, qn, qc, sA, sn, sc, p, q, s, _, by omega, by go_num, Lib.hid (HE2.out.up hbc9).bx, Lib.hid (HE2.out.up hbc9).rx, HEX, hp4', hq4', by omega, hsk, by omega, Lib.hid (HE2.out.up hbc9).bs, bel_trans hbw2 hbc9⟩); (case measure => (simp [intOf] <;> omega))) | (go_roundw; (case rel => exact ⟨k + 1, pA, pn, pc, qA, qn, qc, sA, sn, sc, p, q, s, _, by omega, by go_num, Lib.hid (HE2.out.up hbc9).bx, Lib.hid (HE2.out.up hbc9).rx, HEX, hp4', hq4', by omega, hsk, by omega, Lib.hid (HE2.out.up hbc9).bs, bel_trans hbw2 hbc9⟩); (case measure => (simp [intOf] <;> omega))) | (refine ⟨?_, by simp [intOf] <;> omega⟩; (repeat apply Exists.intro); refine ⟨?rel, ?fr⟩; (case fr => ((repeat' apply And.intro) <;> rfl)); (case rel => exact ⟨k + 1, pA, pn, pc, qA, qn, qc, sA, sn, sc, p, q, s, _, by omega, by go_num, Lib.hid (HE2.out.up hbc9).bx, Lib.hid (HE2.out.up hbc9).rx, HEX, hp4', hq4', by omega, hsk, by omega, Lib.hid (HE2.out.up hbc9).bs, bel_trans hbw2 hbc9⟩)))
        · have z4 : ((r : Int) == 4) = false := by simp; omega
          by_cases h2 : r = 2
          · skip
            have z2 : ((r : Int) == 2) = true := by simp [h2]
            clear h2
            as_aux_lemma =>
              go_upto_region 36 with fail
              obtain ⟨w4, hw4⟩ : ∃ x, x = W3 := ⟨_, rfl⟩
              subst hw4
              have hbc4 := hbc3
              have HW4 := HW3
              have HY4 := HY3
              have hz4 := Nat.le_refl w4.heap.size
              have HNO : Hid (¬ (exB p q s c = true ∧ hdB a.h = true)) := Lib.hid (fun g => by rw [HEX.out] at g; cases g.1)
              go_upto_region 37 with (go_at_call 12; refine (ref0_CopyHelds C5 k5 e5 a.h _ (HE2.out.up hbc4).hh HBH.out).mono ?_; rintro e w5 ⟨v5, rfl, ho5, hb5⟩; obtain ⟨hA, hc, e5', hh5, -⟩ := ho5.helds HBH.out; rw [HPL.out.2.2.2.2] at e5' hh5; subst e5'; have HH5 := Lib.hid hh5; have HO5 := Lib.hid ho5; clear hh5 ho5)
              clear al a_0 a_1 a_2
              have hbc5 := bel_trans hbc4 hb5
              have HW5 := Lib.hid (HW4.out.up hb5)
              have HY5 := Lib.hid (HY4.out.up hb5)
              have hE5 := HE2.out.up hbc5
              have il := hE5.bi.lt
              have i_0 := (hE5.bi.box).2 0 _ rfl; have i_1 := (hE5.bi.box).2 1 _ rfl; have i_2 := (hE5.bi.box).2 2 _ rfl; have i_3 := (hE5.bi.box).2 3 _ rfl
              clear hE5
              go_upto_region 38 with (go_at_call 13; refine (exec_Step_bad iA jA kA hA pn ic qn jc sn kc k5 hc p q s a.h c _ (HE2.out.up hbc5).ri.p (HE2.out.up hbc5).ri.q (HE2.out.up hbc5).ri.s HH5.out HNO.out).mono ?_; rintro e w6 ⟨rfl, hb6⟩)
              clear il i_0 i_1 i_2 i_3
              refine wp_world (fun W7 hW7 => ?_)
              obtain ⟨g4, hg4⟩ : ∃ g, g = w6.heap.size := ⟨_, rfl⟩
              have HZ7 : Hid (Blk W7 g4 28 [.slice none 0 0, .slice none 0 0, .slice none 0 0, .int .i64 0]) := Lib.hid (by rw [hW7, hg4]; exact Blk.new w6 28 [.slice none 0 0, .slice none 0 0, .slice none 0 0, .int .i64 0])
              have hb67 : Below w6.heap.size w6 W7 := by rw [hW7]; exact bel_alloc (Below.refl _ _)
              rw [← hg4]
              have hg4b : gy < g4 := by rw [hg4]; have h1 := hb5.size; have h2 := hb6.size; omega
              clear hW7 hg4
              have hb57 := bel_trans hb6 hb67
              have hbc6 := bel_trans hbc5 hb6
              have hbc7 := bel_trans hbc5 hb57
              have HW7 := Lib.hid (HW5.out.up hb57)
              have HY7 := Lib.hid (HY5.out.up hb57)
              have HO7 := Lib.hid ((HO5.out.up hb6).up hb67)
              have zl := HZ7.out.lt
              have z_0 := (HZ7.out.box).2 0 _ rfl; have z_1 := (HZ7.out.box).2 1 _ rfl; have z_2 := (HZ7.out.box).2 2 _ rfl; have z_3 := (HZ7.out.box).2 3 _ rfl
              have hY7 := HY7.out
              have yf := hY7.frozen
              have yl := hY7.lt
              have y_0 := (hY7.box).2 0 _ rfl; have y_1 := (hY7.box).2 1 _ rfl; have y_2 := (hY7.box).2 2 _ rfl; have y_3 := (hY7.box).2 3 _ rfl
              clear hY7
              go_upto_region 39 with fail
              refine wp_world (fun W8 hW8 => ?_)
              have HO8 : Hid (OwnHs W8 _ _ _) := Lib.hid (by rw [hW8]; exact HO7.out.low4 (by omega) _ _ _ _)
              have HY8 : Hid (Blk W8 gy 28 [.slice none 0 0, .slice none 0 0, .slice none 0 0, .int .i64 0]) := Lib.hid (by rw [hW8]; exact set4 HY7.out _ _ _ _)
              have HW8 := Lib.hid (show Blk W8 gw _ _ from by rw [hW8]; exact HW7.out.far4 hwy _ _ _ _)
              have hbc8 : Below W2.heap.size W2 W8 := by rw [hW8]; exact bel_set4 hbc7 hgy2 _ _ _ _
              have hz58 : w5.heap.size ≤ W8.heap.size := by rw [hW8]; have h1 := hb57.size; simpa using h1
              clear hW8 yl yf y_0 y_1 y_2 y_3 zl z_0 z_1 z_2 z_3 HY7 HW7
              have HYO8 := Lib.hid (ExO.nil W8 w5.heap.size)
              have HWR8 : Hid (ReadE W8 none 0 none 0 none 0 [] [] []) := Lib.hid (ReadE.nil _ _ _ _)
              obtain ⟨BY, hBY⟩ : ∃ b, b = w5.heap.size := ⟨_, rfl⟩
              rw [← hBY] at HYO8
              have hBY8 : BY ≤ W8.heap.size := by rw [hBY]; exact hz58
              have hBY2 : W2.heap.size ≤ BY := by rw [hBY]; exact hbc5.size
              clear hBY
              have hE8 := HE2.out.up hbc8
              have al := hE8.ba.lt
              have a_0 := (hE8.ba.box).2 0 _ rfl; have a_1 := (hE8.ba.box).2 1 _ rfl; have a_2 := (hE8.ba.box).2 2 _ rfl
              clear hE8
              obtain ⟨hA2, hc2, e52, hh52, -⟩ := HO8.out.helds HBH.out
              rw [HPL.out.2.2.2.2] at e52 hh52
              injection e52 with e521 e522 e523
              subst e521
              subst e523
              clear e522
              have HH8 := Lib.hid hh52
              clear hh52
              go_upto_region 51 with (go_at_call 14; refine (ref0_EqHelds hA k5 hc C5 k5 e5 a.h _ HH8.out (HE2.out.up hbc8).hh).mono ?_; rintro e W9 ⟨rfl, hb9⟩)
              clear al a_0 a_1 a_2
              have hbc9 := bel_trans hbc8 hb9
              have HW9 := Lib.hid (HW8.out.up hb9)
              have HY9 := Lib.hid (HY8.out.up hb9)
              have HYO9 := Lib.hid (HYO8.out.up hb9)
              have HWR9 := Lib.hid (HWR8.out.up hb9)
              have hBY9 := Nat.le_trans hBY8 hb9.size
              clear HO8 HH8 HO7 HO5 HH5 HW8 HY8 HYO8 HWR8 hb9
              have hyr := ReadE.nil W9 none none none
              have HYR9 := Lib.hid hyr
              clear hyr
              have yl := HY9.out.lt
              have y_0 := (HY9.out.box).2 0 _ rfl; have y_1 := (HY9.out.box).2 1 _ rfl; have y_2 := (HY9.out.box).2 2 _ rfl; have y_3 := (HY9.out.box).2 3 _ rfl
              have zl := HW9.out.lt
              have z_0 := (HW9.out.box).2 0 _ rfl; have z_1 := (HW9.out.box).2 1 _ rfl; have z_2 := (HW9.out.box).2 2 _ rfl; have z_3 := (HW9.out.box).2 3 _ rfl
              go_upto_region 53 with (first | (go_at_call 7; refine (law23_num _ _).mono ?_; rintro e w' ⟨rfl, rfl⟩) | (go_at_call 18; refine (ref0_EqExec iA jA kA pA qA sA pn ic qn jc sn kc pn pc qn qc sn sc p q s _ _ (HE2.out.up hbc10).ri.p (HE2.out.up hbc10).ri.q (HE2.out.up hbc10).ri.s (HE2.out.up hbc10).rx.p (HE2.out.up hbc10).rx.q (HE2.out.up hbc10).rx.s).mono ?_; rintro e w11 ⟨rfl, hb11⟩) | (go_at_call 18; refine (ref0_EqExec none none none none none none 0 0 0 0 0 0 0 0 0 0 0 0 [] [] [] 0 _ HYR9.out.p HYR9.out.q HYR9.out.s HWR9.out.p HWR9.out.q HWR9.out.s).mono ?_; rintro e w10 ⟨rfl, hb10⟩; have hbc10 := bel_trans hbc9 hb10; clear yl y_0 y_1 y_2 y_3 zl z_0 z_1 z_2 z_3; have il := (HE2.out.up hbc10).bi.lt; have i_0 := ((HE2.out.up hbc10).bi.box).2 0 _ rfl; have i_1 := ((HE2.out.up hbc10).bi.box).2 1 _ rfl; have i_2 := ((HE2.out.up hbc10).bi.box).2 2 _ rfl; have i_3 := ((HE2.out.up hbc10).bi.box).2 3 _ rfl; have xl := (HE2.out.up hbc10).bx.lt; have x_0 := ((HE2.out.up hbc10).bx.box).2 0 _ rfl; have x_1 := ((HE2.out.up hbc10).bx.box).2 1 _ rfl; have x_2 := ((HE2.out.up hbc10).bx.box).2 2 _ rfl; have x_3 := ((HE2.out.up hbc10).bx.box).2 3 _ rfl))
              clear il i_0 i_1 i_2 i_3
              clear xl x_0 x_1 x_2 x_3
              have hb911 := bel_trans hb10 hb11
              have hbc11 := bel_trans hbc9 hb911
              have HY11 := Lib.hid (HY9.out.up hb911)
              have HYO11 := Lib.hid (HYO9.out.up hb911)
              have hBY11 := Nat.le_trans hBY9 hb911.size
              have yl := HY11.out.lt
              have y_0 := (HY11.out.box).2 0 _ rfl; have y_1 := (HY11.out.box).2 1 _ rfl; have y_2 := (HY11.out.box).2 2 _ rfl; have y_3 := (HY11.out.box).2 3 _ rfl
              go_upto_region 54 with (go_at_call 24; refine (law0_Exec _ _ _ _ _ _ _ BY _ HYO11.out hBY11 (by simp) (by simp) (by simp)).mono ?_; rintro e w12 ⟨rfl, hb12⟩)
              clear yl y_0 y_1 y_2 y_3
              have hbc12 : Below W2.heap.size W2 w12 := Below.trans hbc11 (hb12.mono hBY2)
              have hE12 := HE2.out.up hbc12
              have il := hE12.bi.lt
              have i_0 := (hE12.bi.box).2 0 _ rfl; have i_1 := (hE12.bi.box).2 1 _ rfl; have i_2 := (hE12.bi.box).2 2 _ rfl; have i_3 := (hE12.bi.box).2 3 _ rfl
              have xl := hE12.bx.lt
              have x_0 := (hE12.bx.box).2 0 _ rfl; have x_1 := (hE12.bx.box).2 1 _ rfl; have x_2 := (hE12.bx.box).2 2 _ rfl; have x_3 := (hE12.bx.box).2 3 _ rfl
              clear hE12
              go_upto_region 56 with (go_at_call 18; refine (ref0_EqExec iA jA kA pA qA sA pn ic qn jc sn kc pn pc qn qc sn sc p q s _ _ (HE2.out.up hbc12).ri.p (HE2.out.up hbc12).ri.q (HE2.out.up hbc12).ri.s (HE2.out.up hbc12).rx.p (HE2.out.up hbc12).rx.q (HE2.out.up hbc12).rx.s).mono ?_; rintro e w13 ⟨rfl, hb13⟩)
              clear il i_0 i_1 i_2 i_3
              clear xl x_0 x_1 x_2 x_3
              have hbc13 := bel_trans hbc12 hb13
              go_wp2_with fail
              (first | (go_round; (case rel => exact ⟨k + 1, pA, pn, pc, qA, qn, qc, sA, sn, sc, p, q, s, c, by omega, by go_num, Lib.hid (HE2.out.up hbc13).bx, Lib.hid (HE2.out.up hbc13).rx, HEX, hp4', hq4', by omega, hsk, by omega, Lib.hid (HE2.out.up hbc13).bs, bel_trans hbw2 hbc13⟩); (case measure => (simp [intOf] <;> omega))) | (go_roundw; (case rel => exact ⟨k + 1, pA, pn, pc, qA, qn, qc, sA, sn, sc, p, q, s, c, by omega, by go_num, Lib.hid (HE2.out.up hbc13).bx, Lib.hid (HE2.out.up hbc13).rx, HEX, hp4', hq4', by omega, hsk, by omega, Lib.hid (HE2.out.up hbc13).bs, bel_trans hbw2 hbc13⟩); (case measure => (simp [intOf] <;> omega))) | (refine ⟨?_, by simp [intOf] <;> omega⟩; (repeat apply Exists.intro); refine ⟨?rel, ?fr⟩; (case fr => ((repeat' apply And.intro) <;> rfl)); (case rel => exact ⟨k + 1, pA, pn, pc, qA, qn, qc, sA, sn, sc, p, q, s, c, by omega, by go_num, Lib.hid (HE2.out.up hbc13).bx, Lib.hid (HE2.out.up hbc13).rx, HEX, hp4', hq4', by omega, hsk, by omega, Lib.hid (HE2.out.up hbc13).bs, bel_trans hbw2 hbc13⟩)))
          · have z2 : ((r : Int) == 2) = false := by simp; omega
            by_cases h3 : r = 3
            · skip
              have z3 : ((r : Int) == 3) = true := by simp [h3]
              clear h3
              as_aux_lemma =>
                go_upto_region 36 with fail
                obtain ⟨w4, hw4⟩ : ∃ x, x = W3 := ⟨_, rfl⟩
                subst hw4
                have hbc4 := hbc3
                have HW4 := HW3
                have HY4 := HY3
                have hz4 := Nat.le_refl w4.heap.size
                have HNO : Hid (¬ (exB p q s c = true ∧ hdB a.h = true)) := Lib.hid (fun g => by rw [HEX.out] at g; cases g.1)
                go_upto_region 37 with (go_at_call 12; refine (ref0_CopyHelds C5 k5 e5 a.h _ (HE2.out.up hbc4).hh HBH.out).mono ?_; rintro e w5 ⟨v5, rfl, ho5, hb5⟩; obtain ⟨hA, hc, e5', hh5, -⟩ := ho5.helds HBH.out; rw [HPL.out.2.2.2.2] at e5' hh5; subst e5'; have HH5 := Lib.hid hh5; have HO5 := Lib.hid ho5; clear hh5 ho5)
                clear al a_0 a_1 a_2
                have hbc5 := bel_trans hbc4 hb5
                have HW5 := Lib.hid (HW4.out.up hb5)
                have HY5 := Lib.hid (HY4.out.up hb5)
                have hE5 := HE2.out.up hbc5
                have il := hE5.bi.lt
                have i_0 := (hE5.bi.box).2 0 _ rfl; have i_1 := (hE5.bi.box).2 1 _ rfl; have i_2 := (hE5.bi.box).2 2 _ rfl; have i_3 := (hE5.bi.box).2 3 _ rfl
                clear hE5
                go_upto_region 38 with (go_at_call 13; refine (exec_Step_bad iA jA kA hA pn ic qn jc sn kc k5 hc p q s a.h c _ (HE2.out.up hbc5).ri.p (HE2.out.up hbc5).ri.q (HE2.out.up hbc5).ri.s HH5.out HNO.out).mono ?_; rintro e w6 ⟨rfl, hb6⟩)
                clear il i_0 i_1 i_2 i_3
                refine wp_world (fun W7 hW7 => ?_)
                obtain ⟨g4, hg4⟩ : ∃ g, g = w6.heap.size := ⟨_, rfl⟩
                have HZ7 : Hid (Blk W7 g4 28 [.slice none 0 0, .slice none 0 0, .slice none 0 0, .int .i64 0]) := Lib.hid (by rw [hW7, hg4]; exact Blk.new w6 28 [.slice none 0 0, .slice none 0 0, .slice none 0 0, .int .i64 0])
                have hb67 : Below w6.heap.size w6 W7 := by rw [hW7]; exact bel_alloc (Below.refl _ _)
                rw [← hg4]
                have hg4b : gy < g4 := by rw [hg4]; have h1 := hb5.size; have h2 := hb6.size; omega
                clear hW7 hg4
                have hb57 := bel_trans hb6 hb67
                have hbc6 := bel_trans hbc5 hb6
                have hbc7 := bel_trans hbc5 hb57
                have HW7 := Lib.hid (HW5.out.up hb57)
                have HY7 := Lib.hid (HY5.out.up hb57)
                have HO7 := Lib.hid ((HO5.out.up hb6).up hb67)
                have zl := HZ7.out.lt
                have z_0 := (HZ7.out.box).2 0 _ rfl; have z_1 := (HZ7.out.box).2 1 _ rfl; have z_2 := (HZ7.out.box).2 2 _ rfl; have z_3 := (HZ7.out.box).2 3 _ rfl
                have hY7 := HY7.out
                have yf := hY7.frozen
                have yl := hY7.lt
                have y_0 := (hY7.box).2 0 _ rfl; have y_1 := (hY7.box).2 1 _ rfl; have y_2 := (hY7.box).2 2 _ rfl; have y_3 := (hY7.box).2 3 _ rfl
                clear hY7
                go_upto_region 39 with fail
                refine wp_world (fun W8 hW8 => ?_)
                have HO8 : Hid (OwnHs W8 _ _ _) := Lib.hid (by rw [hW8]; exact HO7.out.low4 (by omega) _ _ _ _)
                have HY8 : Hid (Blk W8 gy 28 [.slice none 0 0, .slice none 0 0, .slice none 0 0, .int .i64 0]) := Lib.hid (by rw [hW8]; exact set4 HY7.out _ _ _ _)
                have HW8 := Lib.hid (show Blk W8 gw _ _ from by rw [hW8]; exact HW7.out.far4 hwy _ _ _ _)
                have hbc8 : Below W2.heap.size W2 W8 := by rw [hW8]; exact bel_set4 hbc7 hgy2 _ _ _ _
                have hz58 : w5.heap.size ≤ W8.heap.size := by rw [hW8]; have h1 := hb57.size; simpa using h1
                clear hW8 yl yf y_0 y_1 y_2 y_3 zl z_0 z_1 z_2 z_3 HY7 HW7
                have HYO8 := Lib.hid (ExO.nil W8 w5.heap.size)
                have HWR8 : Hid (ReadE W8 none 0 none 0 none 0 [] [] []) := Lib.hid (ReadE.nil _ _ _ _)
                obtain ⟨BY, hBY⟩ : ∃ b, b = w5.heap.size := ⟨_, rfl⟩
                rw [← hBY] at HYO8
                have hBY8 : BY ≤ W8.heap.size := by rw [hBY]; exact hz58
                have hBY2 : W2.heap.size ≤ BY := by rw [hBY]; exact hbc5.size
                clear hBY
                have hE8 := HE2.out.up hbc8
                have al := hE8.ba.lt
                have a_0 := (hE8.ba.box).2 0 _ rfl; have a_1 := (hE8.ba.box).2 1 _ rfl; have a_2 := (hE8.ba.box).2 2 _ rfl
                clear hE8
                obtain ⟨hA2, hc2, e52, hh52, -⟩ := HO8.out.helds HBH.out
                rw [HPL.out.2.2.2.2] at e52 hh52
                injection e52 with e521 e522 e523
                subst e521
                subst e523
                clear e522
                have HH8 := Lib.hid hh52
                clear hh52
                go_upto_region 51 with (go_at_call 14; refine (ref0_EqHelds hA k5 hc C5 k5 e5 a.h _ HH8.out (HE2.out.up hbc8).hh).mono ?_; rintro e W9 ⟨rfl, hb9⟩)
                clear al a_0 a_1 a_2
                have hbc9 := bel_trans hbc8 hb9
                have HW9 := Lib.hid (HW8.out.up hb9)
                have HY9 := Lib.hid (HY8.out.up hb9)
                have HYO9 := Lib.hid (HYO8.out.up hb9)
                have HWR9 := Lib.hid (HWR8.out.up hb9)
                have hBY9 := Nat.le_trans hBY8 hb9.size
                clear HO8 HH8 HO7 HO5 HH5 HW8 HY8 HYO8 HWR8 hb9
                have hyr := ReadE.nil W9 none none none
                have HYR9 := Lib.hid hyr
                clear hyr
                have yl := HY9.out.lt
                have y_0 := (HY9.out.box).2 0 _ rfl; have y_1 := (HY9.out.box).2 1 _ rfl; have y_2 := (HY9.out.box).2 2 _ rfl; have y_3 := (HY9.out.box).2 3 _ rfl
                have zl := HW9.out.lt
                have z_0 := (HW9.out.box).2 0 _ rfl; have z_1 := (HW9.out.box).2 1 _ rfl; have z_2 := (HW9.out.box).2 2 _ rfl; have z_3 := (HW9.out.box).2 3 _ rfl
                go_upto_region 53 with (first | (go_at_call 7; refine (law23_num _ _).mono ?_; rintro e w' ⟨rfl, rfl⟩) | (go_at_call 18; refine (ref0_EqExec iA jA kA pA qA sA pn ic qn jc sn kc pn pc qn qc sn sc p q s _ _ (HE2.out.up hbc10).ri.p (HE2.out.up hbc10).ri.q (HE2.out.up hbc10).ri.s (HE2.out.up hbc10).rx.p (HE2.out.up hbc10).rx.q (HE2.out.up hbc10).rx.s).mono ?_; rintro e w11 ⟨rfl, hb11⟩) | (go_at_call 18; refine (ref0_EqExec none none none none none none 0 0 0 0 0 0 0 0 0 0 0 0 [] [] [] 0 _ HYR9.out.p HYR9.out.q HYR9.out.s HWR9.out.p HWR9.out.q HWR9.out.s).mono ?_; rintro e w10 ⟨rfl, hb10⟩; have hbc10 := bel_trans hbc9 hb10; clear yl y_0 y_1 y_2 y_3 zl z_0 z_1 z_2 z_3; have il := (HE2.out.up hbc10).bi.lt; have i_0 := ((HE2.out.up hbc10).bi.box).2 0 _ rfl; have i_1 := ((HE2.out.up hbc10).bi.box).2 1 _ rfl; have i_2 := ((HE2.out.up hbc10).bi.box).2 2 _ rfl; have i_3 := ((HE2.out.up hbc10).bi.box).2 3 _ rfl; have xl := (HE2.out.up hbc10).bx.lt; have x_0 := ((HE2.out.up hbc10).bx.box).2 0 _ rfl; have x_1 := ((HE2.out.up hbc10).bx.box).2 1 _ rfl; have x_2 := ((HE2.out.up hbc10).bx.box).2 2 _ rfl; have x_3 := ((HE2.out.up hbc10).bx.box).2 3 _ rfl))
                clear il i_0 i_1 i_2 i_3
                clear xl x_0 x_1 x_2 x_3
                have hb911 := bel_trans hb10 hb11
                have hbc11 := bel_trans hbc9 hb911
                have HY11 := Lib.hid (HY9.out.up hb911)
                have HYO11 := Lib.hid (HYO9.out.up hb911)
                have hBY11 := Nat.le_trans hBY9 hb911.size
                have yl := HY11.out.lt
                have y_0 := (HY11.out.box).2 0 _ rfl; have y_1 := (HY11.out.box).2 1 _ rfl; have y_2 := (HY11.out.box).2 2 _ rfl; have y_3 := (HY11.out.box).2 3 _ rfl
                go_upto_region 54 with (go_at_call 24; refine (law0_Exec _ _ _ _ _ _ _ BY _ HYO11.out hBY11 (by simp) (by simp) (by simp)).mono ?_; rintro e w12 ⟨rfl, hb12⟩)
                clear yl y_0 y_1 y_2 y_3
                have hbc12 : Below W2.heap.size W2 w12 := Below.trans hbc11 (hb12.mono hBY2)
                have hE12 := HE2.out.up hbc12
                have il := hE12.bi.lt
                have i_0 := (hE12.bi.box).2 0 _ rfl; have i_1 := (hE12.bi.box).2 1 _ rfl; have i_2 := (hE12.bi.box).2 2 _ rfl; have i_3 := (hE12.bi.box).2 3 _ rfl
                have xl := hE12.bx.lt
                have x_0 := (hE12.bx.box).2 0 _ rfl; have x_1 := (hE12.bx.box).2 1 _ rfl; have x_2 := (hE12.bx.box).2 2 _ rfl; have x_3 := (hE12.bx.box).2 3 _ rfl
                clear hE12
                go_upto_region 56 with (go_at_call 18; refine (ref0_EqExec iA jA kA pA qA sA pn ic qn jc sn kc pn pc qn qc sn sc p q s _ _ (HE2.out.up hbc12).ri.p (HE2.out.up hbc12).ri.q (HE2.out.up hbc12).ri.s (HE2.out.up hbc12).rx.p (HE2.out.up hbc12).rx.q (HE2.out.up hbc12).rx.s).mono ?_; rintro e w13 ⟨rfl, hb13⟩)
                clear il i_0 i_1 i_2 i_3
                clear xl x_0 x_1 x_2 x_3
                have hbc13 := bel_trans hbc12 hb13
                go_wp2_with fail
                (first | (go_round; (case rel => exact ⟨k + 1, pA, pn, pc, qA, qn, qc, sA, sn, sc, p, q, s, c, by omega, by go_num, Lib.hid (HE2.out.up hbc13).bx, Lib.hid (HE2.out.up hbc13).rx, HEX, hp4', hq4', by omega, hsk, by omega, Lib.hid (HE2.out.up hbc13).bs, bel_trans hbw2 hbc13⟩); (case measure => (simp [intOf] <;> omega))) | (go_roundw; (case rel => exact ⟨k + 1, pA, pn, pc, qA, qn, qc, sA, sn, sc, p, q, s, c, by omega, by go_num, Lib.hid (HE2.out.up hbc13).bx, Lib.hid (HE2.out.up hbc13).rx, HEX, hp4', hq4', by omega, hsk, by omega, Lib.hid (HE2.out.up hbc13).bs, bel_trans hbw2 hbc13⟩); (case measure => (simp [intOf] <;> omega))) | (refine ⟨?_, by simp [intOf] <;> omega⟩; (repeat apply Exists.intro); refine ⟨?rel, ?fr⟩; (case fr => ((repeat' apply And.intro) <;> rfl)); (case rel => exact ⟨k + 1, pA, pn, pc, qA, qn, qc, sA, sn, sc, p, q, s, c, by omega, by go_num, Lib.hid (HE2.out.up hbc13).bx, Lib.hid (HE2.out.up hbc13).rx, HEX, hp4', hq4', by omega, hsk, by omega, Lib.hid (HE2.out.up hbc13).bs, bel_trans hbw2 hbc13⟩)))
            · have z3 : ((r : Int) == 3) = false := by simp; omega
              as_aux_lemma =>
                go_upto_region 24 with fail
                obtain ⟨w4, hw4⟩ : ∃ x, x = W3 := ⟨_, rfl⟩
                subst hw4
                have hbc4 := hbc3
                have HW4 := HW3
                have HY4 := HY3
                have hz4 := Nat.le_refl w4.heap.size
                have HNO : Hid (¬ (exB p q s c = true ∧ betS a.l 1 65536 = true)) := Lib.hid (fun g => by rw [HEX.out] at g; cases g.1)
                obtain ⟨Wb, hWb⟩ : ∃ x, x = w4 := ⟨_, rfl⟩
                subst hWb
                have hbcb := hbc4
                have HWb := HW4
                have HYb := HY4
                have hyb : gy < Wb.heap.size := HYb.out.lt
                have hwb : gw < Wb.heap.size := HWb.out.lt
                have HIb := Lib.hid (HE2.out.up hbcb).hi
                have HIb2 := Lib.hid (HE2.out.up hbcb).ri
                obtain ⟨S, hSd⟩ : ∃ S : World → Prop, S = fun Q => Q.rangeAt gi 0 [.slice iA pn ic, .slice jA qn jc, .slice kA sn kc, .int .i64 c] ∧ Q.cell? ⟨ga, 1, none⟩ = some (.slice A5 m5 d5) := ⟨_, rfl⟩
                have hS1 : ∀ Q, S Q → Q.rangeAt gi 0 [.slice iA pn ic, .slice jA qn jc, .slice kA sn kc, .int .i64 c] := fun Q h => by rw [hSd] at h; exact h.1
                have hS2 : ∀ Q, S Q → Q.cell? ⟨ga, 1, none⟩ = some (.slice A5 m5 d5) := fun Q h => by rw [hSd] at h; exact h.2
                have hS : ∀ Q, Below Wb.heap.size Wb Q → S Q := fun Q hQ => by rw [hSd]; exact ⟨((HE2.out.up hbcb).bi.up hQ).rng, ((HE2.out.up hbcb).ba.up hQ).box.2 1 _ rfl⟩
                clear hSd al a_0 a_1 a_2
                go_cut [21, 22, 23] from 76 to 84 (fun s21 s22 s23 wx => ∃ (g : Nat), s21 = .pointer (some ⟨g, 0, none⟩) ∧ s22 = .slice none 0 0 ∧ s23 = .int .i64 1 ∧ Wb.heap.size ≤ g ∧ Hid (Blk wx g 28 [.slice none 0 0, .slice none 0 0, .slice none 0 0, .int .i64 0]) ∧ Below Wb.heap.size Wb wx)
                case first =>
                  refine wp_region_held_drew (S := S) (by kernel_rfl) (hS _ (bel_drew (Below.refl _ _))) (fun hHeld => ?_)
                  have hbd : Below Wb.heap.size Wb Wb.drew := bel_drew (Below.refl _ _)
                  generalize Wb.drew = Z at *
                  refine wpAnyH_takeD (i := 0) (d := (some 77)) (v := .agg ([.slice iA pn ic, .slice jA qn jc, .slice kA sn kc, .int .i64 c]).toArray) rfl rfl (by kernel_rfl) (by kernel_rfl) (by kernel_rfl) (fun _ _ _ h => h) (yieldsIf_load_mid (by rfl) 28 _ rfl gi 0 (by simp [Act.eval, Act.put]) ([.slice iA pn ic, .slice jA qn jc, .slice kA sn kc, .int .i64 c]) _ (hS1) Tryz.underlying28 (by rfl) (by kernel_rfl)) (by assumption) ?_
                  simp only [Act.put, List.setIfInBounds_toArray, List.set_cons_zero, List.set_cons_succ]
                  (refine wpAnyH_tk 1 (some 78) (v := ?_) rfl rfl ?_ ?_; rotate_left; (focus (intro wq hSw; clear hSw; go_simp; all_goals (with_reducible rfl))); simp only [Act.put, List.setIfInBounds_toArray, List.set_cons_zero, List.set_cons_succ])
                  (refine wpAnyH_tk 2 (some 79) (v := ?_) rfl rfl ?_ ?_; rotate_left; (focus (intro wq hSw; have q1 := hS2 wq hSw; clear hSw; go_simp; all_goals (with_reducible rfl))); simp only [Act.put, List.setIfInBounds_toArray, List.set_cons_zero, List.set_cons_succ])
                  refine wpAnyH_ready (rs := [3, 9]) (by kernel_rfl) (by simp) ?_
                  refine AllReadyH.cons (o := _) rfl (fun K hK => ?_) (AllReadyH.cons (o := _) rfl (fun K hK => ?_) AllReadyH.nil)
                  · skip
                    go_simp
                    (go_at_call 23; refine (ref0_CopyNumbers A5 m5 d5 a.l _ (HIb.out.up (hbd)) (by omega)).mono ?_; rintro e w5 ⟨v5, rfl, hU, hb5⟩; obtain ⟨uA, uc, rfl, hu5⟩ := nmI hU HPL.out.2.2.2.1 (by omega); clear hU)
                    have hbb5 := bel_trans (hbd) hb5
                    refine hK.out _ _ (hS _ hbb5) (fun hHeld => ?_)
                    clear hK K
                    (try simp only [Act.put, List.setIfInBounds_toArray, List.set_cons_zero, List.set_cons_succ])
                    refine wpAnyH_ready (rs := [4, 9]) (by kernel_rfl) (by simp) ?_
                    refine AllReadyH.cons (o := _) rfl (fun K hK => ?_) (AllReadyH.cons (o := _) rfl (fun K hK => ?_) AllReadyH.nil)
                    · skip
                      go_simp
                      (go_at_call 22; refine (exec_Push_bad iA jA kA uA pn ic qn jc sn kc m5 uc p q s a.l c _ (HIb2.out.p.up (hbb5)) (HIb2.out.q.up (hbb5)) (HIb2.out.s.up (hbb5)) hu5 HNO.out).mono ?_; rintro e w6 ⟨rfl, hb6⟩)
                      have hbb6 := bel_trans (hbb5) hb6
                      refine hK.out _ _ (hS _ hbb6) (fun hHeld => ?_)
                      clear hK K
                      (try simp only [Act.put, List.setIfInBounds_toArray, List.set_cons_zero, List.set_cons_succ])
                      (refine wpAnyH_tk 5 (some 76) (v := ?_) rfl rfl ?_ ?_; rotate_left; (focus (intro wq hSw; clear hSw; go_simp; all_goals (with_reducible rfl))); simp only [Act.put, List.setIfInBounds_toArray, List.set_cons_zero, List.set_cons_succ])
                      (refine wpAnyH_tk 6 (some 82) (v := ?_) rfl rfl ?_ ?_; rotate_left; (focus (intro wq hSw; clear hSw; go_simp; all_goals (with_reducible rfl))); simp only [Act.put, List.setIfInBounds_toArray, List.set_cons_zero, List.set_cons_succ])
                      (refine wpAnyH_tk 7 (some 83) (v := ?_) rfl rfl ?_ ?_; rotate_left; (focus (intro wq hSw; clear hSw; go_simp; all_goals (with_reducible rfl))); simp only [Act.put, List.setIfInBounds_toArray, List.set_cons_zero, List.set_cons_succ])
                      (refine wpAnyH_tk 8 (some 84) (v := ?_) rfl rfl ?_ ?_; rotate_left; (focus (intro wq hSw; clear hSw; go_simp; all_goals (with_reducible rfl))); simp only [Act.put, List.setIfInBounds_toArray, List.set_cons_zero, List.set_cons_succ])
                      refine wpAnyH_ready (rs := [9]) (by kernel_rfl) (by simp) ?_
                      refine AllReadyH.cons (o := _) rfl (fun K hK => ?_) AllReadyH.nil
                      go_simp
                      obtain ⟨g4, hg4⟩ : ∃ g, g = w6.heap.size := ⟨_, rfl⟩
                      obtain ⟨ZB, hZB⟩ : ∃ Zq : World, Zq = w6.alloc (.cells #[.slice none 0 0, .slice none 0 0, .slice none 0 0, .int .i64 0] 28) := ⟨_, rfl⟩
                      rw [← hg4, ← hZB]
                      have hza : Blk ZB g4 28 [.slice none 0 0, .slice none 0 0, .slice none 0 0, .int .i64 0] := by rw [hZB, hg4]; exact Blk.new _ 28 [.slice none 0 0, .slice none 0 0, .slice none 0 0, .int .i64 0]
                      have hbz : Below w6.heap.size w6 ZB := by rw [hZB]; exact bel_alloc (Below.refl _ _)
                      have hbbz := bel_trans (hbb6) hbz
                      have hg4b : Wb.heap.size ≤ g4 := by rw [hg4]; exact (hbb6).size
                      clear hg4 hZB
                      refine hK.out _ _ (hS _ hbbz) (fun hHeld => ?_)
                      clear hK K
                      (try simp only [Act.put, List.setIfInBounds_toArray, List.set_cons_zero, List.set_cons_succ])
                      refine wpAnyH_ready (rs := [10]) (by kernel_rfl) (by simp) ?_
                      refine AllReadyH.cons (o := _) rfl (fun K hK => ?_) AllReadyH.nil
                      have hzf := hza.frozen
                      have hzl := hza.lt
                      have z_0 := (hza.box).2 0 _ rfl; have z_1 := (hza.box).2 1 _ rfl; have z_2 := (hza.box).2 2 _ rfl; have z_3 := (hza.box).2 3 _ rfl
                      go_simp
                      clear hzf hzl z_0 z_1 z_2 z_3
                      have hz8 : Blk _ g4 28 [.slice none 0 0, .slice none 0 0, .slice none 0 0, .int .i64 0] := set4 hza (.slice none 0 0) (.slice none 0 0) (.slice none 0 0) (.int .i64 0)
                      have hbb8 := bel_set4 (hbbz) hg4b (.slice none 0 0) (.slice none 0 0) (.slice none 0 0) (.int .i64 0)
                      refine hK.out _ _ (hS _ hbb8) (fun hHeld => ?_)
                      clear hK K
                      (try simp only [Act.put, List.setIfInBounds_toArray, List.set_cons_zero, List.set_cons_succ])
                      (refine wpAnyH_tk 11 (some 22) (v := ?_) rfl rfl ?_ ?_; rotate_left; (focus (intro wq hSw; clear hSw; go_simp; all_goals (with_reducible rfl))); simp only [Act.put, List.setIfInBounds_toArray, List.set_cons_zero, List.set_cons_succ])
                      (refine wpAnyH_tk 12 (some 23) (v := ?_) rfl rfl ?_ ?_; rotate_left; (focus (intro wq hSw; clear hSw; go_simp; all_goals (with_reducible rfl))); simp only [Act.put, List.setIfInBounds_toArray, List.set_cons_zero, List.set_cons_succ])
                      refine wpAnyH_done (by kernel_rfl) ?_ _
                      go_wp2_with fail
                      go_meet
                      exact ⟨g4, rfl, rfl, rfl, hg4b, Lib.hid hz8, hbb8⟩
                    · skip
                      go_simp
                      obtain ⟨g4, hg4⟩ : ∃ g, g = w5.heap.size := ⟨_, rfl⟩
                      obtain ⟨ZB, hZB⟩ : ∃ Zq : World, Zq = w5.alloc (.cells #[.slice none 0 0, .slice none 0 0, .slice none 0 0, .int .i64 0] 28) := ⟨_, rfl⟩
                      rw [← hg4, ← hZB]
                      have hza : Blk ZB g4 28 [.slice none 0 0, .slice none 0 0, .slice none 0 0, .int .i64 0] := by rw [hZB, hg4]; exact Blk.new _ 28 [.slice none 0 0, .slice none 0 0, .slice none 0 0, .int .i64 0]
                      have hbz : Below w5.heap.size w5 ZB := by rw [hZB]; exact bel_alloc (Below.refl _ _)
                      have hbbz := bel_trans (hbb5) hbz
                      have hg4b : Wb.heap.size ≤ g4 := by rw [hg4]; exact (hbb5).size
                      clear hg4 hZB
                      have hu7 := hu5.up hbz
                      refine hK.out _ _ (hS _ hbbz) (fun hHeld => ?_)
                      clear hK K
                      (try simp only [Act.put, List.setIfInBounds_toArray, List.set_cons_zero, List.set_cons_succ])
                      refine wpAnyH_ready (rs := [4]) (by kernel_rfl) (by simp) ?_
                      refine AllReadyH.cons (o := _) rfl (fun K hK => ?_) AllReadyH.nil
                      go_simp
                      (go_at_call 22; refine (exec_Push_bad iA jA kA uA pn ic qn jc sn kc m5 uc p q s a.l c _ (HIb2.out.p.up (hbbz)) (HIb2.out.q.up (hbbz)) (HIb2.out.s.up (hbbz)) hu7 HNO.out).mono ?_; rintro e w6 ⟨rfl, hb6⟩)
                      have hbb6 := bel_trans (hbbz) hb6
                      have hz6 := hza.up hb6
                      have hgB : g4 < ZB.heap.size := hza.lt
                      refine hK.out _ _ (hS _ hbb6) (fun hHeld => ?_)
                      clear hK K
                      (try simp only [Act.put, List.setIfInBounds_toArray, List.set_cons_zero, List.set_cons_succ])
                      (refine wpAnyH_tk 5 (some 76) (v := ?_) rfl rfl ?_ ?_; rotate_left; (focus (intro wq hSw; clear hSw; go_simp; all_goals (with_reducible rfl))); simp only [Act.put, List.setIfInBounds_toArray, List.set_cons_zero, List.set_cons_succ])
                      (refine wpAnyH_tk 6 (some 82) (v := ?_) rfl rfl ?_ ?_; rotate_left; (focus (intro wq hSw; clear hSw; go_simp; all_goals (with_reducible rfl))); simp only [Act.put, List.setIfInBounds_toArray, List.set_cons_zero, List.set_cons_succ])
                      (refine wpAnyH_tk 7 (some 83) (v := ?_) rfl rfl ?_ ?_; rotate_left; (focus (intro wq hSw; clear hSw; go_simp; all_goals (with_reducible rfl))); simp only [Act.put, List.setIfInBounds_toArray, List.set_cons_zero, List.set_cons_succ])
                      (refine wpAnyH_tk 8 (some 84) (v := ?_) rfl rfl ?_ ?_; rotate_left; (focus (intro wq hSw; clear hSw; go_simp; all_goals (with_reducible rfl))); simp only [Act.put, List.setIfInBounds_toArray, List.set_cons_zero, List.set_cons_succ])
                      refine wpAnyH_ready (rs := [10]) (by kernel_rfl) (by simp) ?_
                      refine AllReadyH.cons (o := _) rfl (fun K hK => ?_) AllReadyH.nil
                      have hzf := hz6.frozen
                      have hzl := hz6.lt
                      have z_0 := (hz6.box).2 0 _ rfl; have z_1 := (hz6.box).2 1 _ rfl; have z_2 := (hz6.box).2 2 _ rfl; have z_3 := (hz6.box).2 3 _ rfl
                      go_simp
                      clear hzf hzl z_0 z_1 z_2 z_3
                      have hz8 : Blk _ g4 28 [.slice none 0 0, .slice none 0 0, .slice none 0 0, .int .i64 0] := set4 hz6 (.slice none 0 0) (.slice none 0 0) (.slice none 0 0) (.int .i64 0)
                      have hbb8 := bel_set4 (hbb6) hg4b (.slice none 0 0) (.slice none 0 0) (.slice none 0 0) (.int .i64 0)
                      refine hK.out _ _ (hS _ hbb8) (fun hHeld => ?_)
                      clear hK K
                      (try simp only [Act.put, List.setIfInBounds_toArray, List.set_cons_zero, List.set_cons_succ])
                      (refine wpAnyH_tk 11 (some 22) (v := ?_) rfl rfl ?_ ?_; rotate_left; (focus (intro wq hSw; clear hSw; go_simp; all_goals (with_reducible rfl))); simp only [Act.put, List.setIfInBounds_toArray, List.set_cons_zero, List.set_cons_succ])
                      (refine wpAnyH_tk 12 (some 23) (v := ?_) rfl rfl ?_ ?_; rotate_left; (focus (intro wq hSw; clear hSw; go_simp; all_goals (with_reducible rfl))); simp only [Act.put, List.setIfInBounds_toArray, List.set_cons_zero, List.set_cons_succ])
                      refine wpAnyH_done (by kernel_rfl) ?_ _
                      go_wp2_with fail
                      go_meet
                      exact ⟨g4, rfl, rfl, rfl, hg4b, Lib.hid hz8, hbb8⟩
                  · skip
                    go_simp
                    obtain ⟨g4, hg4⟩ : ∃ g, g = Z.heap.size := ⟨_, rfl⟩
                    obtain ⟨ZB, hZB⟩ : ∃ Zq : World, Zq = Z.alloc (.cells #[.slice none 0 0, .slice none 0 0, .slice none 0 0, .int .i64 0] 28) := ⟨_, rfl⟩
                    rw [← hg4, ← hZB]
                    have hza : Blk ZB g4 28 [.slice none 0 0, .slice none 0 0, .slice none 0 0, .int .i64 0] := by rw [hZB, hg4]; exact Blk.new _ 28 [.slice none 0 0, .slice none 0 0, .slice none 0 0, .int .i64 0]
                    have hbz : Below Z.heap.size Z ZB := by rw [hZB]; exact bel_alloc (Below.refl _ _)
                    have hbbz := bel_trans (hbd) hbz
                    have hg4b : Wb.heap.size ≤ g4 := by rw [hg4]; exact (hbd).size
                    clear hg4 hZB
                    refine hK.out _ _ (hS _ hbbz) (fun hHeld => ?_)
                    clear hK K
                    (try simp only [Act.put, List.setIfInBounds_toArray, List.set_cons_zero, List.set_cons_succ])
                    refine wpAnyH_ready (rs := [3]) (by kernel_rfl) (by simp) ?_
                    refine AllReadyH.cons (o := _) rfl (fun K hK => ?_) AllReadyH.nil
                    go_simp
                    (go_at_call 23; refine (ref0_CopyNumbers A5 m5 d5 a.l _ (HIb.out.up (hbbz)) (by omega)).mono ?_; rintro e w5 ⟨v5, rfl, hU, hb5⟩; obtain ⟨uA, uc, rfl, hu5⟩ := nmI hU HPL.out.2.2.2.1 (by omega); clear hU)
                    have hbb5 := bel_trans (hbbz) hb5
                    have hz5 := hza.up hb5
                    refine hK.out _ _ (hS _ hbb5) (fun hHeld => ?_)
                    clear hK K
                    (try simp only [Act.put, List.setIfInBounds_toArray, List.set_cons_zero, List.set_cons_succ])
                    refine wpAnyH_ready (rs := [4]) (by kernel_rfl) (by simp) ?_
                    refine AllReadyH.cons (o := _) rfl (fun K hK => ?_) AllReadyH.nil
                    go_simp
                    (go_at_call 22; refine (exec_Push_bad iA jA kA uA pn ic qn jc sn kc m5 uc p q s a.l c _ (HIb2.out.p.up (hbb5)) (HIb2.out.q.up (hbb5)) (HIb2.out.s.up (hbb5)) hu5 HNO.out).mono ?_; rintro e w6 ⟨rfl, hb6⟩)
                    have hbb6 := bel_trans (hbb5) hb6
                    have hz6 := hz5.up hb6
                    have hgB : g4 < w5.heap.size := hz5.lt
                    refine hK.out _ _ (hS _ hbb6) (fun hHeld => ?_)
                    clear hK K
                    (try simp only [Act.put, List.setIfInBounds_toArray, List.set_cons_zero, List.set_cons_succ])
                    (refine wpAnyH_tk 5 (some 76) (v := ?_) rfl rfl ?_ ?_; rotate_left; (focus (intro wq hSw; clear hSw; go_simp; all_goals (with_reducible rfl))); simp only [Act.put, List.setIfInBounds_toArray, List.set_cons_zero, List.set_cons_succ])
                    (refine wpAnyH_tk 6 (some 82) (v := ?_) rfl rfl ?_ ?_; rotate_left; (focus (intro wq hSw; clear hSw; go_simp; all_goals (with_reducible rfl))); simp only [Act.put, List.setIfInBounds_toArray, List.set_cons_zero, List.set_cons_succ])
                    (refine wpAnyH_tk 7 (some 83) (v := ?_) rfl rfl ?_ ?_; rotate_left; (focus (intro wq hSw; clear hSw; go_simp; all_goals (with_reducible rfl))); simp only [Act.put, List.setIfInBounds_toArray, List.set_cons_zero, List.set_cons_succ])
                    (refine wpAnyH_tk 8 (some 84) (v := ?_) rfl rfl ?_ ?_; rotate_left; (focus (intro wq hSw; clear hSw; go_simp; all_goals (with_reducible rfl))); simp only [Act.put, List.setIfInBounds_toArray, List.set_cons_zero, List.set_cons_succ])
                    refine wpAnyH_ready (rs := [10]) (by kernel_rfl) (by simp) ?_
                    refine AllReadyH.cons (o := _) rfl (fun K hK => ?_) AllReadyH.nil
                    have hzf := hz6.frozen
                    have hzl := hz6.lt
                    have z_0 := (hz6.box).2 0 _ rfl; have z_1 := (hz6.box).2 1 _ rfl; have z_2 := (hz6.box).2 2 _ rfl; have z_3 := (hz6.box).2 3 _ rfl
                    go_simp
                    clear hzf hzl z_0 z_1 z_2 z_3
                    have hz8 : Blk _ g4 28 [.slice none 0 0, .slice none 0 0, .slice none 0 0, .int .i64 0] := set4 hz6 (.slice none 0 0) (.slice none 0 0) (.slice none 0 0) (.int .i64 0)
                    have hbb8 := bel_set4 (hbb6) hg4b (.slice none 0 0) (.slice none 0 0) (.slice none 0 0) (.int .i64 0)
                    refine hK.out _ _ (hS _ hbb8) (fun hHeld => ?_)
                    clear hK K
                    (try simp only [Act.put, List.setIfInBounds_toArray, List.set_cons_zero, List.set_cons_succ])
                    (refine wpAnyH_tk 11 (some 22) (v := ?_) rfl rfl ?_ ?_; rotate_left; (focus (intro wq hSw; clear hSw; go_simp; all_goals (with_reducible rfl))); simp only [Act.put, List.setIfInBounds_toArray, List.set_cons_zero, List.set_cons_succ])
                    (refine wpAnyH_tk 12 (some 23) (v := ?_) rfl rfl ?_ ?_; rotate_left; (focus (intro wq hSw; clear hSw; go_simp; all_goals (with_reducible rfl))); simp only [Act.put, List.setIfInBounds_toArray, List.set_cons_zero, List.set_cons_succ])
                    refine wpAnyH_done (by kernel_rfl) ?_ _
                    go_wp2_with fail
                    go_meet
                    exact ⟨g4, rfl, rfl, rfl, hg4b, Lib.hid hz8, hbb8⟩
                case rest =>
                obtain ⟨g4, rfl, rfl, rfl, hg4b, HZ7, hbb7⟩ := hcut
                obtain ⟨W7, hW7e⟩ : ∃ x, x = wc := ⟨_, rfl⟩
                subst hW7e
                clear hS hS1 hS2 HIb HIb2
                have hbc7 := bel_trans hbcb hbb7
                have HW7 := Lib.hid (HWb.out.up hbb7)
                have HY7 := Lib.hid (HYb.out.up hbb7)
                have zl := HZ7.out.lt
                have z_0 := (HZ7.out.box).2 0 _ rfl; have z_1 := (HZ7.out.box).2 1 _ rfl; have z_2 := (HZ7.out.box).2 2 _ rfl; have z_3 := (HZ7.out.box).2 3 _ rfl
                have hY7 := HY7.out
                have yf := hY7.frozen
                have yl := hY7.lt
                have y_0 := (hY7.box).2 0 _ rfl; have y_1 := (hY7.box).2 1 _ rfl; have y_2 := (hY7.box).2 2 _ rfl; have y_3 := (hY7.box).2 3 _ rfl
                clear hY7
                go_upto_region 26 with fail
                refine wp_world (fun W8 hW8 => ?_)
                have HY8 : Hid (Blk W8 gy 28 [.slice none 0 0, .slice none 0 0, .slice none 0 0, .int .i64 0]) := Lib.hid (by rw [hW8]; exact set4 HY7.out _ _ _ _)
                have HW8 := Lib.hid (show Blk W8 gw _ _ from by rw [hW8]; exact HW7.out.far4 hwy _ _ _ _)
                have hbc8 : Below W2.heap.size W2 W8 := by rw [hW8]; exact bel_set4 hbc7 hgy2 _ _ _ _
                have hzb8 : Wb.heap.size ≤ W8.heap.size := by rw [hW8]; have h1 := hbb7.size; simpa using h1
                clear hW8 HY7 HW7 HZ7 hbb7 yl yf y_0 y_1 y_2 y_3 zl z_0 z_1 z_2 z_3
                go_upto_region 28 with (go_at_call 17; refine (ref0_EqNumbers_same none 0 0 [] none 0 0 _ (IntsR.nil _ _) (IntsR.nil _ _)).mono ?_; rintro e W9x ⟨rfl, hb9⟩)
                go_upto_region 51 with (go_at_call 19; refine (law0_Numbers (.slice none 0 0) [] Wb.heap.size _ (OwnI.nil _ _) (by simp) (Nat.le_trans hzb8 hb9.size)).mono ?_; rintro e WA ⟨rfl, hbA⟩)
                have hbcA : Below W2.heap.size W2 WA := Below.trans (bel_trans hbc8 hb9) (hbA.mono hbcb.size)
                have HWA := Lib.hid ((HW8.out.up hb9).bel hbA hwb)
                have HYA := Lib.hid ((HY8.out.up hb9).bel hbA hyb)
                obtain ⟨BY, hBY⟩ : ∃ b, b = Wb.heap.size := ⟨_, rfl⟩
                have hBYA : BY ≤ WA.heap.size := by rw [hBY]; exact Nat.le_trans (Nat.le_trans hzb8 hb9.size) hbA.size
                have hBY2 : W2.heap.size ≤ BY := by rw [hBY]; exact hbcb.size
                have HYOA : Hid (ExO WA BY (.slice none 0 0) (.slice none 0 0) (.slice none 0 0) [] [] []) := Lib.hid (ExO.nil _ _)
                have HWR9 : Hid (ReadE WA none 0 none 0 none 0 [] [] []) := Lib.hid (ReadE.nil _ _ _ _)
                clear hBY
                clear hb9 hbA HW8 HY8 HWb HYb hbc8 hbc7
                obtain ⟨W9, hw9⟩ : ∃ x, x = WA := ⟨_, rfl⟩
                subst hw9
                have hbc9 := hbcA
                have HW9 := HWA
                have HY9 := HYA
                have HYO9 := HYOA
                have hBY9 := hBYA
                clear hbcA HWA HYA HYOA hBYA
                have hyr := ReadE.nil W9 none none none
                have HYR9 := Lib.hid hyr
                clear hyr
                have yl := HY9.out.lt
                have y_0 := (HY9.out.box).2 0 _ rfl; have y_1 := (HY9.out.box).2 1 _ rfl; have y_2 := (HY9.out.box).2 2 _ rfl; have y_3 := (HY9.out.box).2 3 _ rfl
                have zl := HW9.out.lt
                have z_0 := (HW9.out.box).2 0 _ rfl; have z_1 := (HW9.out.box).2 1 _ rfl; have z_2 := (HW9.out.box).2 2 _ rfl; have z_3 := (HW9.out.box).2 3 _ rfl
                go_upto_region 53 with (first | (go_at_call 7; refine (law23_num _ _).mono ?_; rintro e w' ⟨rfl, rfl⟩) | (go_at_call 18; refine (ref0_EqExec iA jA kA pA qA sA pn ic qn jc sn kc pn pc qn qc sn sc p q s _ _ (HE2.out.up hbc10).ri.p (HE2.out.up hbc10).ri.q (HE2.out.up hbc10).ri.s (HE2.out.up hbc10).rx.p (HE2.out.up hbc10).rx.q (HE2.out.up hbc10).rx.s).mono ?_; rintro e w11 ⟨rfl, hb11⟩) | (go_at_call 18; refine (ref0_EqExec none none none none none none 0 0 0 0 0 0 0 0 0 0 0 0 [] [] [] 0 _ HYR9.out.p HYR9.out.q HYR9.out.s HWR9.out.p HWR9.out.q HWR9.out.s).mono ?_; rintro e w10 ⟨rfl, hb10⟩; have hbc10 := bel_trans hbc9 hb10; clear yl y_0 y_1 y_2 y_3 zl z_0 z_1 z_2 z_3; have il := (HE2.out.up hbc10).bi.lt; have i_0 := ((HE2.out.up hbc10).bi.box).2 0 _ rfl; have i_1 := ((HE2.out.up hbc10).bi.box).2 1 _ rfl; have i_2 := ((HE2.out.up hbc10).bi.box).2 2 _ rfl; have i_3 := ((HE2.out.up hbc10).bi.box).2 3 _ rfl; have xl := (HE2.out.up hbc10).bx.lt; have x_0 := ((HE2.out.up hbc10).bx.box).2 0 _ rfl; have x_1 := ((HE2.out.up hbc10).bx.box).2 1 _ rfl; have x_2 := ((HE2.out.up hbc10).bx.box).2 2 _ rfl; have x_3 := ((HE2.out.up hbc10).bx.box).2 3 _ rfl))
                clear il i_0 i_1 i_2 i_3
                clear xl x_0 x_1 x_2 x_3
                have hb911 := bel_trans hb10 hb11
                have hbc11 := bel_trans hbc9 hb911
                have HY11 := Lib.hid (HY9.out.up hb911)
                have HYO11 := Lib.hid (HYO9.out.up hb911)
                have hBY11 := Nat.le_trans hBY9 hb911.size
                have yl := HY11.out.lt
                have y_0 := (HY11.out.box).2 0 _ rfl; have y_1 := (HY11.out.box).2 1 _ rfl; have y_2 := (HY11.out.box).2 2 _ rfl; have y_3 := (HY11.out.box).2 3 _ rfl
                go_upto_region 54 with (go_at_call 24; refine (law0_Exec _ _ _ _ _ _ _ BY _ HYO11.out hBY11 (by simp) (by simp) (by simp)).mono ?_; rintro e w12 ⟨rfl, hb12⟩)
                clear yl y_0 y_1 y_2 y_3
                have hbc12 : Below W2.heap.size W2 w12 := Below.trans hbc11 (hb12.mono hBY2)
                have hE12 := HE2.out.up hbc12
                have il := hE12.bi.lt
                have i_0 := (hE12.bi.box).2 0 _ rfl; have i_1 := (hE12.bi.box).2 1 _ rfl; have i_2 := (hE12.bi.box).2 2 _ rfl; have i_3 := (hE12.bi.box).2 3 _ rfl
                have xl := hE12.bx.lt
                have x_0 := (hE12.bx.box).2 0 _ rfl; have x_1 := (hE12.bx.box).2 1 _ rfl; have x_2 := (hE12.bx.box).2 2 _ rfl; have x_3 := (hE12.bx.box).2 3 _ rfl
                clear hE12
                go_upto_region 56 with (go_at_call 18; refine (ref0_EqExec iA jA kA pA qA sA pn ic qn jc sn kc pn pc qn qc sn sc p q s _ _ (HE2.out.up hbc12).ri.p (HE2.out.up hbc12).ri.q (HE2.out.up hbc12).ri.s (HE2.out.up hbc12).rx.p (HE2.out.up hbc12).rx.q (HE2.out.up hbc12).rx.s).mono ?_; rintro e w13 ⟨rfl, hb13⟩)
                clear il i_0 i_1 i_2 i_3
                clear xl x_0 x_1 x_2 x_3
                have hbc13 := bel_trans hbc12 hb13
                go_wp2_with fail
                (first | (go_round; (case rel => exact ⟨k + 1, pA, pn, pc, qA, qn, qc, sA, sn, sc, p, q, s, c, by omega, by go_num, Lib.hid (HE2.out.up hbc13).bx, Lib.hid (HE2.out.up hbc13).rx, HEX, hp4', hq4', by omega, hsk, by omega, Lib.hid (HE2.out.up hbc13).bs, bel_trans hbw2 hbc13⟩); (case measure => (simp [intOf] <;> omega))) | (go_roundw; (case rel => exact ⟨k + 1, pA, pn, pc, qA, qn, qc, sA, sn, sc, p, q, s, c, by omega, by go_num, Lib.hid (HE2.out.up hbc13).bx, Lib.hid (HE2.out.up hbc13).rx, HEX, hp4', hq4', by omega, hsk, by omega, Lib.hid (HE2.out.up hbc13).bs, bel_trans hbw2 hbc13⟩); (case measure => (simp [intOf] <;> omega))) | (refine ⟨?_, by simp [intOf] <;> omega⟩; (repeat apply Exists.intro); refine ⟨?rel, ?fr⟩; (case fr => ((repeat' apply And.intro) <;> rfl)); (case rel => exact ⟨k + 1, pA, pn, pc, qA, qn, qc, sA, sn, sc, p, q, s, c, by omega, by go_num, Lib.hid (HE2.out.up hbc13).bx, Lib.hid (HE2.out.up hbc13).rx, HEX, hp4', hq4', by omega, hsk, by omega, Lib.hid (HE2.out.up hbc13).bs, bel_trans hbw2 hbc13⟩)))
      · skip
        go_wp2_with (go_at_call 25; refine (law23_wakes _).mono ?_; rintro e w9 ⟨rfl, hb9⟩)
        all_goals
          go_ret
          exact ⟨rfl, bel_trans hbw hb9⟩
  case true =>
    have HYE2 : Hid (exB D.e.p D.e.q D.e.s ec = true) := HYE
    go_wp2_with (first | (go_at_call 6; refine (ref22_Exec pA qA sA un pc vn qc tn sc D.e.p D.e.q D.e.s ec _ _ HR2.out.p HR2.out.q HR2.out.s hsk (by omega) HYE2.out).mono ?_; rintro e w3 ⟨rfl, hb3⟩; have HX3 := Lib.hid (HX2.out.up hb3); have HR3 := Lib.hid (HR2.out.up hb3); have HB3 := Lib.hid (HB2.out.up hb3); have hbw3 := bel_trans hbw2 hb3; clear xl x_0 x_1 x_2 x_3; have xl := HX3.out.lt; have x_0 := (HX3.out.box).2 0 _ rfl; have x_1 := (HX3.out.box).2 1 _ rfl; have x_2 := (HX3.out.box).2 2 _ rfl; have x_3 := (HX3.out.box).2 3 _ rfl) | (go_at_call 8; refine (exec_Check pA qA sA un pc vn qc tn sc D.e.p D.e.q D.e.s ec true 0 _ HR3.out.p HR3.out.q HR3.out.s HYE2.out (by rfl)).mono ?_; rintro e w4 ⟨rfl, hb4⟩; have HX4 := Lib.hid (HX3.out.up hb4); have HR4 := Lib.hid (HR3.out.up hb4); have HB4 := Lib.hid (HB3.out.up hb4); have hbw4 := bel_trans hbw3 hb4) | (go_at_call 7; refine (law23_num _ _).mono ?_; rintro e w' ⟨rfl, rfl⟩))
    clear xl x_0 x_1 x_2 x_3 HX2 HR2 HB2 hbw2 HX3 HR3 HB3 hbw3 hb3 hb4
    go_loopw [5] (fun ix wr => ∃ (k : Nat) (pA : Option Addr) (pn pc : Nat) (qA : Option Addr) (qn qc : Nat) (sA : Option Addr) (sn sc : Nat) (p : List PairD) (q : List AcctD) (s : List Int) (c : Int), k ≤ ln ∧ ix = .int .i64 k ∧ Hid (Blk wr gx 28 [.slice pA pn pc, .slice qA qn qc, .slice sA sn sc, .int .i64 c]) ∧ Hid (ReadE wr pA pn qA qn sA sn p q s) ∧ Hid (exB p q s c = true) ∧ pn ≤ 4096 ∧ qn ≤ 4096 ∧ sn ≤ 300 + 6000 * k ∧ sn ≤ sc ∧ k ≤ 12 ∧ Hid (BoxR wr w.heap.size [.slice uA un uc, .slice vA vn vc, .slice tA tn tc, .int .i64 ec, .slice lA ln lc]) ∧ Below w.heap.size w wr) (fun ix _ => ln - (intOf ix).toNat)
    case atStart => exact ⟨0, pA, un, pc, qA, vn, qc, sA, tn, sc, D.e.p, D.e.q, D.e.s, ec, Nat.zero_le _, rfl, HX4, HR4, HYE2, by omega, by omega, by omega, hsk, by omega, HB4, hbw4⟩
    case round =>
      clear HX4 HR4 HB4 hbw4 HYE2 hsk
      obtain ⟨k, pA, pn, pc, qA, qn, qc, sA, sn, sc, p, q, s, c, hk, rfl, HX, HRX, HEX, hp4', hq4', hs4', hsk, hk12, HB, hbw⟩ := hrel
      (obtain ⟨wk, hwk⟩ : ∃ x, x = wr := ⟨_, rfl⟩); subst hwk
      have b_0 := (HB.out).2 0 _ rfl; have b_1 := (HB.out).2 1 _ rfl; have b_2 := (HB.out).2 2 _ rfl; have b_3 := (HB.out).2 3 _ rfl; have b_4 := (HB.out).2 4 _ rfl
      have hg0 := HB.out.1
      by_cases hlt : k < ln ∧ k < 12
      · skip
        obtain ⟨hlt1, hlt2⟩ := hlt
        obtain ⟨ab, aoff, rfl, hab, hac⟩ := (HL.out.up hbw).2.2 (by omega)
        obtain ⟨A5, m5, d5, C5, k5, e5, c0, c1, c2, hI, hH⟩ := hac k hlt1
        obtain ⟨a, ha⟩ : ∃ a, acth D.l k = a := ⟨_, rfl⟩
        rw [ha] at c0 hI hH
        have ham : a ∈ D.l := by rw [← ha]; have := HL.out.1; simp [acth, show k < D.l.length by omega]
        have hm6 : m5 ≤ 6000 := by rw [← hI.1]; exact HLT.out.li a ham
        have hk6 : k5 ≤ 6000 := by rw [← hH.1]; exact HLT.out.hi a ham
        have HBH : Hid (BigH a.h) := Lib.hid ⟨by have := HLT.out.hi a ham; omega, fun x hx => by have := HLT.out.ti a ham x hx; omega⟩
        obtain ⟨ad, had⟩ : ∃ x, a.d = x := ⟨_, rfl⟩
        rw [had] at c0
        have HI0 := Lib.hid hI
        have HH0 := Lib.hid hH
        clear hac ha hI hH ham had
        go_upto_region 13 with fail
        clear c0 c1 c2 b_0 b_1 b_2 b_3 b_4
        refine wp_world (fun W1 hW1 => ?_)
        obtain ⟨ga, hga⟩ : ∃ g, g = wk.heap.size := ⟨_, rfl⟩
        have HA1 : Hid (Blk W1 ga 40 [.int .i64 ad, .slice A5 m5 d5, .slice C5 k5 e5]) := Lib.hid (by rw [hW1, hga]; exact Blk.new wk 40 [.int .i64 ad, .slice A5 m5 d5, .slice C5 k5 e5])
        have hb01 : Below wk.heap.size wk W1 := by rw [hW1]; exact bel_alloc (Below.refl _ _)
        rw [← hga]
        clear hW1 hga hab hg0
        have HX1 := Lib.hid (HX.out.up hb01)
        have HRX1 := Lib.hid (HRX.out.up hb01)
        have HB1 := Lib.hid (HB.out.up hb01)
        have HI1 := Lib.hid (HI0.out.up hb01)
        have HH1 := Lib.hid (HH0.out.up hb01)
        have hbw1 := bel_trans hbw hb01
        clear HX HRX HB HI0 HH0 hbw hb01
        have xl := HX1.out.lt
        have x_0 := (HX1.out.box).2 0 _ rfl; have x_1 := (HX1.out.box).2 1 _ rfl; have x_2 := (HX1.out.box).2 2 _ rfl; have x_3 := (HX1.out.box).2 3 _ rfl
        go_upto_region 14 with (go_at_call 5; refine (ref0_CopyExec pA qA sA pn pc qn qc sn sc p q s c _ HRX1.out.p HRX1.out.q HRX1.out.s (by omega) (by omega) (by omega)).mono ?_; rintro e w2 ⟨vp, va, vs, rfl, hO, hb2⟩; obtain ⟨iA, ic, rfl, -⟩ := nmP hO.p HRX1.out.p.1 (by omega); obtain ⟨jA, jc, rfl, -⟩ := nmA hO.a HRX1.out.q.1 (by omega); obtain ⟨kA, kc, rfl, -⟩ := nmI hO.s HRX1.out.s.1 (by omega); have HO2 := Lib.hid hO; clear hO)
        clear xl x_0 x_1 x_2 x_3
        refine wp_world (fun W2 hW2 => ?_)
        obtain ⟨gi, hgi⟩ : ∃ g, g = w2.heap.size := ⟨_, rfl⟩
        have HI2 : Hid (Blk W2 gi 28 [.slice iA pn ic, .slice jA qn jc, .slice kA sn kc, .int .i64 c]) := Lib.hid (by rw [hW2, hgi]; exact Blk.new w2 28 [.slice iA pn ic, .slice jA qn jc, .slice kA sn kc, .int .i64 c])
        have hb22 : Below w2.heap.size w2 W2 := by rw [hW2]; exact bel_alloc (Below.refl _ _)
        rw [← hgi]
        clear hW2 hgi
        have hb12 := bel_trans hb2 hb22
        have hkc : sn ≤ kc := HO2.out.s.cap
        have HE2 : Hid (EnvE W2 w.heap.size gx gi ga [.slice uA un uc, .slice vA vn vc, .slice tA tn tc, .int .i64 ec, .slice (some ⟨ab, aoff, none⟩) ln lc] [.slice pA pn pc, .slice qA qn qc, .slice sA sn sc, .int .i64 c] [.slice iA pn ic, .slice jA qn jc, .slice kA sn kc, .int .i64 c] [.int .i64 ad, .slice A5 m5 d5, .slice C5 k5 e5] pA qA sA iA jA kA A5 C5 pn qn sn m5 k5 p q s a) := Lib.hid ⟨HB1.out.up hb12, HX1.out.up hb12, HI2.out, HA1.out.up hb12, HRX1.out.up hb12, (HO2.out.up hb22).rd HRX1.out.p.1 HRX1.out.q.1 HRX1.out.s.1 (by omega) (by omega) (by omega), HI1.out.up hb12, HH1.out.up hb12⟩
        have hbw2 := bel_trans hbw1 hb12
        have HPL : Hid (p.length = pn ∧ q.length = qn ∧ s.length = sn ∧ a.l.length = m5 ∧ a.h.length = k5) := Lib.hid ⟨HRX1.out.p.1, HRX1.out.q.1, HRX1.out.s.1, HI1.out.1, HH1.out.1⟩
        clear HB1 HX1 HI2 HA1 HRX1 HO2 HI1 HH1 hb2 hb22 hb12 hbw1
        go_upto_region 18 with fail
        refine wp_world (fun W3 hW3 => ?_)
        obtain ⟨gw, hgw⟩ : ∃ g, g = W2.heap.size := ⟨_, rfl⟩
        obtain ⟨gy, hgy⟩ : ∃ g, g = W2.heap.size + 1 := ⟨_, rfl⟩
        have HW3 : Hid (Blk W3 gw 28 [.slice none 0 0, .slice none 0 0, .slice none 0 0, .int .i64 0]) := Lib.hid (by rw [hW3, hgw]; exact (Blk.new W2 28 [.slice none 0 0, .slice none 0 0, .slice none 0 0, .int .i64 0]).up (bel_alloc (Below.refl _ _)))
        have HY3 : Hid (Blk W3 gy 28 [.slice none 0 0, .slice none 0 0, .slice none 0 0, .int .i64 0]) := Lib.hid (by rw [hW3, hgy]; exact Blk.new1 W2 28 28 [.slice none 0 0, .slice none 0 0, .slice none 0 0, .int .i64 0] [.slice none 0 0, .slice none 0 0, .slice none 0 0, .int .i64 0])
        have hbc3 : Below W2.heap.size W2 W3 := by rw [hW3]; exact bel_alloc (bel_alloc (Below.refl _ _))
        rw [← hgy, ← hgw]
        have hgw2 : W2.heap.size ≤ gw := by omega
        have hgy2 : W2.heap.size ≤ gy := by omega
        have hwy : gw ≠ gy := by omega
        have hwz : gw < W3.heap.size := HW3.out.lt
        have hyz : gy < W3.heap.size := HY3.out.lt
        clear hW3 hgw hgy
        obtain ⟨r, hr⟩ : ∃ y, wiB ad 5 = y := ⟨_, rfl⟩
        have hr5 : r < 5 := by rw [← hr]; exact wiB_lt _ (by omega)
        have HRr := Lib.hid hr
        clear hr
        have al := (HE2.out.up hbc3).ba.lt
        have a_0 := ((HE2.out.up hbc3).ba.box).2 0 _ rfl; have a_1 := ((HE2.out.up hbc3).ba.box).2 1 _ rfl; have a_2 := ((HE2.out.up hbc3).ba.box).2 2 _ rfl
        go_upto_region 29 with (go_at_call 9; refine (law0_Within ad 5 r _ (by omega) (by omega) HRr.out).mono ?_; rintro e w' ⟨rfl, rfl⟩)
        by_cases h4 : r = 4
        · skip
          have z2 : ((r : Int) == 2) = false := by simp; omega
          have z3 : ((r : Int) == 3) = false := by simp; omega
          have z4 : ((r : Int) == 4) = true := by simp [h4]
          clear h4
          obtain ⟨yb, hyb⟩ : ∃ z, hdB a.h = z := ⟨_, rfl⟩
          have HYH := Lib.hid hyb
          clear hyb
          cases yb
          · skip
            as_aux_lemma =>
              go_upto_region 47 with (go_at_call 10; refine (ref13_Held C5 k5 e5 a.h false _ (HE2.out.up hbc3).hh HYH.out).mono ?_; rintro e w4 ⟨rfl, hb4⟩; have hbc4 := bel_trans hbc3 hb4; clear al a_0 a_1 a_2; have al := (HE2.out.up hbc4).ba.lt; have a_0 := ((HE2.out.up hbc4).ba.box).2 0 _ rfl; have a_1 := ((HE2.out.up hbc4).ba.box).2 1 _ rfl; have a_2 := ((HE2.out.up hbc4).ba.box).2 2 _ rfl)
              have HNO : Hid (¬ (exB p q s c = true ∧ hdB a.h = true)) := Lib.hid (fun g => by rw [HYH.out] at g; cases g.2)
              have hE4 := HE2.out.up hbc4
              have il := hE4.bi.lt
              have i_0 := (hE4.bi.box).2 0 _ rfl; have i_1 := (hE4.bi.box).2 1 _ rfl; have i_2 := (hE4.bi.box).2 2 _ rfl; have i_3 := (hE4.bi.box).2 3 _ rfl
              clear hE4
              go_upto_region 48 with (go_at_call 16; refine (exec_Lacks_bad iA jA kA C5 pn ic qn jc sn kc k5 e5 c p q s a.h _ (HE2.out.up hbc4).ri.p (HE2.out.up hbc4).ri.q (HE2.out.up hbc4).ri.s (HE2.out.up hbc4).hh HNO.out (by omega) (by omega) hkc).mono ?_; rintro e w5 ⟨rfl, hb5⟩)
              clear al a_0 a_1 a_2
              clear il i_0 i_1 i_2 i_3
              have hbc5 := bel_trans hbc4 hb5
              have hz9 : Below w5.heap.size w5 w5 := Below.refl _ _
              go_upto_region 50 with (first | (go_at_call 7; refine (law23_num _ _).mono ?_; rintro e w' ⟨rfl, rfl⟩) | (go_at_call 17; refine (ref0_EqNumbers_same none 0 0 [] none 0 0 _ (IntsR.nil _ _) (IntsR.nil _ _)).mono ?_; rintro e w7 ⟨rfl, hb7⟩; have hbc7 := bel_trans hbc5 hb7; have hE7 := HE2.out.up hbc7; have il := hE7.bi.lt; have i_0 := (hE7.bi.box).2 0 _ rfl; have i_1 := (hE7.bi.box).2 1 _ rfl; have i_2 := (hE7.bi.box).2 2 _ rfl; have i_3 := (hE7.bi.box).2 3 _ rfl; have xl := hE7.bx.lt; have x_0 := (hE7.bx.box).2 0 _ rfl; have x_1 := (hE7.bx.box).2 1 _ rfl; have x_2 := (hE7.bx.box).2 2 _ rfl; have x_3 := (hE7.bx.box).2 3 _ rfl; clear hE7) | (go_at_call 18; refine (ref0_EqExec iA jA kA pA qA sA pn ic qn jc sn kc pn pc qn qc sn sc p q s _ _ (HE2.out.up hbc7).ri.p (HE2.out.up hbc7).ri.q (HE2.out.up hbc7).ri.s (HE2.out.up hbc7).rx.p (HE2.out.up hbc7).rx.q (HE2.out.up hbc7).rx.s).mono ?_; rintro e w8 ⟨rfl, hb8⟩))
              clear il i_0 i_1 i_2 i_3
              clear xl x_0 x_1 x_2 x_3
              have hb58 := bel_trans hb7 hb8
              have hbc8 := bel_trans hbc5 hb58
              go_wp2_with (go_at_call 19; refine (law0_Numbers (.slice none 0 0) [] w5.heap.size _ (OwnI.up (OwnI.nil _ _) hb58) (by simp) (Nat.le_trans (Nat.le_refl _) hb58.size)).mono ?_; rintro e w9 ⟨rfl, hb9⟩)
              have hbc9 : Below W2.heap.size W2 w9 := Below.trans hbc8 (hb9.mono hbc5.size)
              (first | (go_round; (case rel => exact ⟨k + 1, pA, pn, pc, qA, qn, qc, sA, sn, sc, p, q, s, _, by omega, by go_num, Lib.hid (HE2.out.up hbc9).bx, Lib.hid (HE2.out.up hbc9).rx, HEX, hp4', hq4', by omega, hsk, by omega, Lib.hid (HE2.out.up hbc9).bs, bel_trans hbw2 hbc9⟩); (case measure => (simp [intOf] <;> omega))) | (go_roundw; (case rel => exact ⟨k + 1, pA, pn, pc, qA, qn, qc, sA, sn, sc, p, q, s, _, by omega, by go_num, Lib.hid (HE2.out.up hbc9).bx, Lib.hid (HE2.out.up hbc9).rx, HEX, hp4', hq4', by omega, hsk, by omega, Lib.hid (HE2.out.up hbc9).bs, bel_trans hbw2 hbc9⟩); (case measure => (simp [intOf] <;> omega))) | (refine ⟨?_, by simp [intOf] <;> omega⟩; (repeat apply Exists.intro); refine ⟨?rel, ?fr⟩; (case fr => ((repeat' apply And.intro) <;> rfl)); (case rel => exact ⟨k + 1, pA, pn, pc, qA, qn, qc, sA, sn, sc, p, q, s, _, by omega, by go_num, Lib.hid (HE2.out.up hbc9).bx, Lib.hid (HE2.out.up hbc9).rx, HEX, hp4', hq4', by omega, hsk, by omega, Lib.hid (HE2.out.up hbc9).bs, bel_trans hbw2 hbc9⟩)))
          · skip
            as_aux_lemma =>
              go_upto_region 46 with (go_at_call 10; refine (ref13_Held C5 k5 e5 a.h true _ (HE2.out.up hbc3).hh HYH.out).mono ?_; rintro e w4 ⟨rfl, hb4⟩; have hbc4 := bel_trans hbc3 hb4; clear al a_0 a_1 a_2; have al := (HE2.out.up hbc4).ba.lt; have a_0 := ((HE2.out.up hbc4).ba.box).2 0 _ rfl; have a_1 := ((HE2.out.up hbc4).ba.box).2 1 _ rfl; have a_2 := ((HE2.out.up hbc4).ba.box).2 2 _ rfl)
              have hec0 := exB_iff.1 HEX.out
              obtain ⟨cn, hcn⟩ : ∃ cn : Nat, c = (cn : Int) := ⟨c.toNat, by have := hec0.2.2.1; omega⟩
              subst hcn
              have hcs : cn ≤ sn := by have h1 := hec0.2.2.2; have h2 := HPL.out.2.2.1; omega
              clear hec0
              obtain ⟨n6, hn6⟩ : ∃ n, (missL a.h (s.drop cn)).length = n := ⟨_, rfl⟩
              have hn6l : n6 ≤ 100000 := by rw [← hn6]; have h1 := miss_len (l := a.h) (ds := s.drop cn); rw [List.length_drop] at h1; have h2 := HPL.out.2.2.1; omega
              have HN6 := Lib.hid hn6
              clear hn6
              have hE4 := HE2.out.up hbc4
              have xl := hE4.bx.lt
              have x_0 := (hE4.bx.box).2 0 _ rfl; have x_1 := (hE4.bx.box).2 1 _ rfl; have x_2 := (hE4.bx.box).2 2 _ rfl; have x_3 := (hE4.bx.box).2 3 _ rfl
              clear hE4
              go_upto_region 47 with (go_at_call 15; refine (ref22_Lacks pA qA sA C5 pn pc qn qc sn sc k5 e5 cn s a.h _ (HE2.out.up hbc4).hh (HE2.out.up hbc4).rx.s (hdB_iff.1 HYH.out) hcs (by omega)).mono ?_; rintro e w5 ⟨v7, rfl, hown7, hb5⟩; obtain ⟨Bf, df, rfl, hr7⟩ := nmI hown7 HN6.out (by omega); have HR7 := Lib.hid hr7; clear hown7 hr7)
              clear al a_0 a_1 a_2
              clear xl x_0 x_1 x_2 x_3
              have hbc5 := bel_trans hbc4 hb5
              have hE5 := HE2.out.up hbc5
              have il := hE5.bi.lt
              have i_0 := (hE5.bi.box).2 0 _ rfl; have i_1 := (hE5.bi.box).2 1 _ rfl; have i_2 := (hE5.bi.box).2 2 _ rfl; have i_3 := (hE5.bi.box).2 3 _ rfl
              have al := hE5.ba.lt
              have a_0 := (hE5.ba.box).2 0 _ rfl; have a_1 := (hE5.ba.box).2 1 _ rfl; have a_2 := (hE5.ba.box).2 2 _ rfl
              clear hE5
              go_upto_region 48 with (go_at_call 16; refine (exec_Lacks_ok iA jA kA C5 pn ic qn jc sn kc k5 e5 cn p q s a.h _ (HE2.out.up hbc5).ri.p (HE2.out.up hbc5).ri.q (HE2.out.up hbc5).ri.s (HE2.out.up hbc5).hh HEX.out HYH.out (by omega) (by omega) hkc).mono ?_; rintro e w6 ⟨v8, rfl, hown8, hb6⟩; obtain ⟨Af, cf, rfl, hr8⟩ := nmI hown8 HN6.out (by omega); have HR8 := Lib.hid hr8; have HO8 := Lib.hid hown8; clear hown8 hr8)
              clear al a_0 a_1 a_2
              clear il i_0 i_1 i_2 i_3
              obtain ⟨B8, hB8⟩ : ∃ b, b = w5.heap.size := ⟨_, rfl⟩
              rw [← hB8] at HO8
              have hB82 : W2.heap.size ≤ B8 := by rw [hB8]; exact hbc5.size
              have hB86 : B8 ≤ w6.heap.size := by rw [hB8]; exact hb6.size
              clear hB8
              have HR76 := Lib.hid (HR7.out.up hb6)
              clear HR7
              have hbc6 := bel_trans hbc5 hb6
              have hz9 : Below w6.heap.size w6 w6 := Below.refl _ _
              go_upto_region 50 with (first | (go_at_call 7; refine (law23_num _ _).mono ?_; rintro e w' ⟨rfl, rfl⟩) | (go_at_call 17; refine (ref0_EqNumbers_same Af n6 cf (missL a.h (s.drop cn)) Bf n6 df _ (HR8.out.up hz9) (HR76.out.up hz9)).mono ?_; rintro e w7 ⟨rfl, hb7⟩; have hbc7 := bel_trans hbc6 hb7; have hE7 := HE2.out.up hbc7; have il := hE7.bi.lt; have i_0 := (hE7.bi.box).2 0 _ rfl; have i_1 := (hE7.bi.box).2 1 _ rfl; have i_2 := (hE7.bi.box).2 2 _ rfl; have i_3 := (hE7.bi.box).2 3 _ rfl; have xl := hE7.bx.lt; have x_0 := (hE7.bx.box).2 0 _ rfl; have x_1 := (hE7.bx.box).2 1 _ rfl; have x_2 := (hE7.bx.box).2 2 _ rfl; have x_3 := (hE7.bx.box).2 3 _ rfl; clear hE7) | (go_at_call 18; refine (ref0_EqExec iA jA kA pA qA sA pn ic qn jc sn kc pn pc qn qc sn sc p q s _ _ (HE2.out.up hbc7).ri.p (HE2.out.up hbc7).ri.q (HE2.out.up hbc7).ri.s (HE2.out.up hbc7).rx.p (HE2.out.up hbc7).rx.q (HE2.out.up hbc7).rx.s).mono ?_; rintro e w8 ⟨rfl, hb8⟩))
              clear il i_0 i_1 i_2 i_3
              clear xl x_0 x_1 x_2 x_3
              have hb68 := bel_trans hb7 hb8
              have hbc8 := bel_trans hbc6 hb68
              go_wp2_with (go_at_call 19; refine (law0_Numbers (.slice Af n6 cf) (missL a.h (s.drop cn)) B8 _ (OwnI.up HO8.out hb68) (by rw [HN6.out]; omega) (Nat.le_trans hB86 hb68.size)).mono ?_; rintro e w9 ⟨rfl, hb9⟩)
              have hbc9 : Below W2.heap.size W2 w9 := Below.trans hbc8 (hb9.mono hB82)
              (first | (go_round; (case rel => exact ⟨k + 1, pA, pn, pc, qA, qn, qc, sA, sn, sc, p, q, s, _, by omega, by go_num, Lib.hid (HE2.out.up hbc9).bx, Lib.hid (HE2.out.up hbc9).rx, HEX, hp4', hq4', by omega, hsk, by omega, Lib.hid (HE2.out.up hbc9).bs, bel_trans hbw2 hbc9⟩); (case measure => (simp [intOf] <;> omega))) | (go_roundw; (case rel => exact ⟨k + 1, pA, pn, pc, qA, qn, qc, sA, sn, sc, p, q, s, _, by omega, by go_num, Lib.hid (HE2.out.up hbc9).bx, Lib.hid (HE2.out.up hbc9).rx, HEX, hp4', hq4', by omega, hsk, by omega, Lib.hid (HE2.out.up hbc9).bs, bel_trans hbw2 hbc9⟩); (case measure => (simp [intOf] <;> omega))) | (refine ⟨?_, by simp [intOf] <;> omega⟩; (repeat apply Exists.intro); refine ⟨?rel, ?fr⟩; (case fr => ((repeat' apply And.intro) <;> rfl)); (case rel => exact ⟨k + 1, pA, pn, pc, qA, qn, qc, sA, sn, sc, p, q, s, _, by omega, by go_num, Lib.hid (HE2.out.up hbc9).bx, Lib.hid (HE2.out.up hbc9).rx, HEX, hp4', hq4', by omega, hsk, by omega, Lib.hid (HE2.out.up hbc9).bs, bel_trans hbw2 hbc9⟩)))
        · have z4 : ((r : Int) == 4) = false := by simp; omega
          by_cases h2 : r = 2
          · skip
            have z2 : ((r : Int) == 2) = true := by simp [h2]
            clear h2
            obtain ⟨yb, hyb⟩ : ∃ z, hdB a.h = z := ⟨_, rfl⟩
            have HYH := Lib.hid hyb
            clear hyb
            cases yb
            · skip
              as_aux_lemma =>
                go_upto_region 36 with (go_at_call 10; refine (ref13_Held C5 k5 e5 a.h false _ (HE2.out.up hbc3).hh HYH.out).mono ?_; rintro e w4 ⟨rfl, hb4⟩; have hbc4 := bel_trans hbc3 hb4; clear al a_0 a_1 a_2; have al := (HE2.out.up hbc4).ba.lt; have a_0 := ((HE2.out.up hbc4).ba.box).2 0 _ rfl; have a_1 := ((HE2.out.up hbc4).ba.box).2 1 _ rfl; have a_2 := ((HE2.out.up hbc4).ba.box).2 2 _ rfl)
                have HW4 := Lib.hid (HW3.out.up hb4)
                have HY4 := Lib.hid (HY3.out.up hb4)
                have hz4 := hb4.size
                have HNO : Hid (¬ (exB p q s c = true ∧ hdB a.h = true)) := Lib.hid (fun g => by rw [HYH.out] at g; cases g.2)
                go_upto_region 37 with (go_at_call 12; refine (ref0_CopyHelds C5 k5 e5 a.h _ (HE2.out.up hbc4).hh HBH.out).mono ?_; rintro e w5 ⟨v5, rfl, ho5, hb5⟩; obtain ⟨hA, hc, e5', hh5, -⟩ := ho5.helds HBH.out; rw [HPL.out.2.2.2.2] at e5' hh5; subst e5'; have HH5 := Lib.hid hh5; have HO5 := Lib.hid ho5; clear hh5 ho5)
                clear al a_0 a_1 a_2
                have hbc5 := bel_trans hbc4 hb5
                have HW5 := Lib.hid (HW4.out.up hb5)
                have HY5 := Lib.hid (HY4.out.up hb5)
                have hE5 := HE2.out.up hbc5
                have il := hE5.bi.lt
                have i_0 := (hE5.bi.box).2 0 _ rfl; have i_1 := (hE5.bi.box).2 1 _ rfl; have i_2 := (hE5.bi.box).2 2 _ rfl; have i_3 := (hE5.bi.box).2 3 _ rfl
                clear hE5
                go_upto_region 38 with (go_at_call 13; refine (exec_Step_bad iA jA kA hA pn ic qn jc sn kc k5 hc p q s a.h c _ (HE2.out.up hbc5).ri.p (HE2.out.up hbc5).ri.q (HE2.out.up hbc5).ri.s HH5.out HNO.out).mono ?_; rintro e w6 ⟨rfl, hb6⟩)
                clear il i_0 i_1 i_2 i_3
                refine wp_world (fun W7 hW7 => ?_)
                obtain ⟨g4, hg4⟩ : ∃ g, g = w6.heap.size := ⟨_, rfl⟩
                have HZ7 : Hid (Blk W7 g4 28 [.slice none 0 0, .slice none 0 0, .slice none 0 0, .int .i64 0]) := Lib.hid (by rw [hW7, hg4]; exact Blk.new w6 28 [.slice none 0 0, .slice none 0 0, .slice none 0 0, .int .i64 0])
                have hb67 : Below w6.heap.size w6 W7 := by rw [hW7]; exact bel_alloc (Below.refl _ _)
                rw [← hg4]
                have hg4b : gy < g4 := by rw [hg4]; have h1 := hb5.size; have h2 := hb6.size; omega
                clear hW7 hg4
                have hb57 := bel_trans hb6 hb67
                have hbc6 := bel_trans hbc5 hb6
                have hbc7 := bel_trans hbc5 hb57
                have HW7 := Lib.hid (HW5.out.up hb57)
                have HY7 := Lib.hid (HY5.out.up hb57)
                have HO7 := Lib.hid ((HO5.out.up hb6).up hb67)
                have zl := HZ7.out.lt
                have z_0 := (HZ7.out.box).2 0 _ rfl; have z_1 := (HZ7.out.box).2 1 _ rfl; have z_2 := (HZ7.out.box).2 2 _ rfl; have z_3 := (HZ7.out.box).2 3 _ rfl
                have hY7 := HY7.out
                have yf := hY7.frozen
                have yl := hY7.lt
                have y_0 := (hY7.box).2 0 _ rfl; have y_1 := (hY7.box).2 1 _ rfl; have y_2 := (hY7.box).2 2 _ rfl; have y_3 := (hY7.box).2 3 _ rfl
                clear hY7
                go_upto_region 39 with fail
                refine wp_world (fun W8 hW8 => ?_)
                have HO8 : Hid (OwnHs W8 _ _ _) := Lib.hid (by rw [hW8]; exact HO7.out.low4 (by omega) _ _ _ _)
                have HY8 : Hid (Blk W8 gy 28 [.slice none 0 0, .slice none 0 0, .slice none 0 0, .int .i64 0]) := Lib.hid (by rw [hW8]; exact set4 HY7.out _ _ _ _)
                have HW8 := Lib.hid (show Blk W8 gw _ _ from by rw [hW8]; exact HW7.out.far4 hwy _ _ _ _)
                have hbc8 : Below W2.heap.size W2 W8 := by rw [hW8]; exact bel_set4 hbc7 hgy2 _ _ _ _
                have hz58 : w5.heap.size ≤ W8.heap.size := by rw [hW8]; have h1 := hb57.size; simpa using h1
                clear hW8 yl yf y_0 y_1 y_2 y_3 zl z_0 z_1 z_2 z_3 HY7 HW7
                have HYO8 := Lib.hid (ExO.nil W8 w5.heap.size)
                have HWR8 : Hid (ReadE W8 none 0 none 0 none 0 [] [] []) := Lib.hid (ReadE.nil _ _ _ _)
                obtain ⟨BY, hBY⟩ : ∃ b, b = w5.heap.size := ⟨_, rfl⟩
                rw [← hBY] at HYO8
                have hBY8 : BY ≤ W8.heap.size := by rw [hBY]; exact hz58
                have hBY2 : W2.heap.size ≤ BY := by rw [hBY]; exact hbc5.size
                clear hBY
                have hE8 := HE2.out.up hbc8
                have al := hE8.ba.lt
                have a_0 := (hE8.ba.box).2 0 _ rfl; have a_1 := (hE8.ba.box).2 1 _ rfl; have a_2 := (hE8.ba.box).2 2 _ rfl
                clear hE8
                obtain ⟨hA2, hc2, e52, hh52, -⟩ := HO8.out.helds HBH.out
                rw [HPL.out.2.2.2.2] at e52 hh52
                injection e52 with e521 e522 e523
                subst e521
                subst e523
                clear e522
                have HH8 := Lib.hid hh52
                clear hh52
                go_upto_region 51 with (go_at_call 14; refine (ref0_EqHelds hA k5 hc C5 k5 e5 a.h _ HH8.out (HE2.out.up hbc8).hh).mono ?_; rintro e W9 ⟨rfl, hb9⟩)
                clear al a_0 a_1 a_2
                have hbc9 := bel_trans hbc8 hb9
                have HW9 := Lib.hid (HW8.out.up hb9)
                have HY9 := Lib.hid (HY8.out.up hb9)
                have HYO9 := Lib.hid (HYO8.out.up hb9)
                have HWR9 := Lib.hid (HWR8.out.up hb9)
                have hBY9 := Nat.le_trans hBY8 hb9.size
                clear HO8 HH8 HO7 HO5 HH5 HW8 HY8 HYO8 HWR8 hb9
                have hyr := ReadE.nil W9 none none none
                have HYR9 := Lib.hid hyr
                clear hyr
                have yl := HY9.out.lt
                have y_0 := (HY9.out.box).2 0 _ rfl; have y_1 := (HY9.out.box).2 1 _ rfl; have y_2 := (HY9.out.box).2 2 _ rfl; have y_3 := (HY9.out.box).2 3 _ rfl
                have zl := HW9.out.lt
                have z_0 := (HW9.out.box).2 0 _ rfl; have z_1 := (HW9.out.box).2 1 _ rfl; have z_2 := (HW9.out.box).2 2 _ rfl; have z_3 := (HW9.out.box).2 3 _ rfl
                go_upto_region 53 with (first | (go_at_call 7; refine (law23_num _ _).mono ?_; rintro e w' ⟨rfl, rfl⟩) | (go_at_call 18; refine (ref0_EqExec iA jA kA pA qA sA pn ic qn jc sn kc pn pc qn qc sn sc p q s _ _ (HE2.out.up hbc10).ri.p (HE2.out.up hbc10).ri.q (HE2.out.up hbc10).ri.s (HE2.out.up hbc10).rx.p (HE2.out.up hbc10).rx.q (HE2.out.up hbc10).rx.s).mono ?_; rintro e w11 ⟨rfl, hb11⟩) | (go_at_call 18; refine (ref0_EqExec none none none none none none 0 0 0 0 0 0 0 0 0 0 0 0 [] [] [] 0 _ HYR9.out.p HYR9.out.q HYR9.out.s HWR9.out.p HWR9.out.q HWR9.out.s).mono ?_; rintro e w10 ⟨rfl, hb10⟩; have hbc10 := bel_trans hbc9 hb10; clear yl y_0 y_1 y_2 y_3 zl z_0 z_1 z_2 z_3; have il := (HE2.out.up hbc10).bi.lt; have i_0 := ((HE2.out.up hbc10).bi.box).2 0 _ rfl; have i_1 := ((HE2.out.up hbc10).bi.box).2 1 _ rfl; have i_2 := ((HE2.out.up hbc10).bi.box).2 2 _ rfl; have i_3 := ((HE2.out.up hbc10).bi.box).2 3 _ rfl; have xl := (HE2.out.up hbc10).bx.lt; have x_0 := ((HE2.out.up hbc10).bx.box).2 0 _ rfl; have x_1 := ((HE2.out.up hbc10).bx.box).2 1 _ rfl; have x_2 := ((HE2.out.up hbc10).bx.box).2 2 _ rfl; have x_3 := ((HE2.out.up hbc10).bx.box).2 3 _ rfl))
                clear il i_0 i_1 i_2 i_3
                clear xl x_0 x_1 x_2 x_3
                have hb911 := bel_trans hb10 hb11
                have hbc11 := bel_trans hbc9 hb911
                have HY11 := Lib.hid (HY9.out.up hb911)
                have HYO11 := Lib.hid (HYO9.out.up hb911)
                have hBY11 := Nat.le_trans hBY9 hb911.size
                have yl := HY11.out.lt
                have y_0 := (HY11.out.box).2 0 _ rfl; have y_1 := (HY11.out.box).2 1 _ rfl; have y_2 := (HY11.out.box).2 2 _ rfl; have y_3 := (HY11.out.box).2 3 _ rfl
                go_upto_region 54 with (go_at_call 24; refine (law0_Exec _ _ _ _ _ _ _ BY _ HYO11.out hBY11 (by simp) (by simp) (by simp)).mono ?_; rintro e w12 ⟨rfl, hb12⟩)
                clear yl y_0 y_1 y_2 y_3
                have hbc12 : Below W2.heap.size W2 w12 := Below.trans hbc11 (hb12.mono hBY2)
                have hE12 := HE2.out.up hbc12
                have il := hE12.bi.lt
                have i_0 := (hE12.bi.box).2 0 _ rfl; have i_1 := (hE12.bi.box).2 1 _ rfl; have i_2 := (hE12.bi.box).2 2 _ rfl; have i_3 := (hE12.bi.box).2 3 _ rfl
                have xl := hE12.bx.lt
                have x_0 := (hE12.bx.box).2 0 _ rfl; have x_1 := (hE12.bx.box).2 1 _ rfl; have x_2 := (hE12.bx.box).2 2 _ rfl; have x_3 := (hE12.bx.box).2 3 _ rfl
                clear hE12
                go_upto_region 56 with (go_at_call 18; refine (ref0_EqExec iA jA kA pA qA sA pn ic qn jc sn kc pn pc qn qc sn sc p q s _ _ (HE2.out.up hbc12).ri.p (HE2.out.up hbc12).ri.q (HE2.out.up hbc12).ri.s (HE2.out.up hbc12).rx.p (HE2.out.up hbc12).rx.q (HE2.out.up hbc12).rx.s).mono ?_; rintro e w13 ⟨rfl, hb13⟩)
                clear il i_0 i_1 i_2 i_3
                clear xl x_0 x_1 x_2 x_3
                have hbc13 := bel_trans hbc12 hb13
                go_wp2_with fail
                (first | (go_round; (case rel => exact ⟨k + 1, pA, pn, pc, qA, qn, qc, sA, sn, sc, p, q, s, c, by omega, by go_num, Lib.hid (HE2.out.up hbc13).bx, Lib.hid (HE2.out.up hbc13).rx, HEX, hp4', hq4', by omega, hsk, by omega, Lib.hid (HE2.out.up hbc13).bs, bel_trans hbw2 hbc13⟩); (case measure => (simp [intOf] <;> omega))) | (go_roundw; (case rel => exact ⟨k + 1, pA, pn, pc, qA, qn, qc, sA, sn, sc, p, q, s, c, by omega, by go_num, Lib.hid (HE2.out.up hbc13).bx, Lib.hid (HE2.out.up hbc13).rx, HEX, hp4', hq4', by omega, hsk, by omega, Lib.hid (HE2.out.up hbc13).bs, bel_trans hbw2 hbc13⟩); (case measure => (simp [intOf] <;> omega))) | (refine ⟨?_, by simp [intOf] <;> omega⟩; (repeat apply Exists.intro); refine ⟨?rel, ?fr⟩; (case fr => ((repeat' apply And.intro) <;> rfl)); (case rel => exact ⟨k + 1, pA, pn, pc, qA, qn, qc, sA, sn, sc, p, q, s, c, by omega, by go_num, Lib.hid (HE2.out.up hbc13).bx, Lib.hid (HE2.out.up hbc13).rx, HEX, hp4', hq4', by omega, hsk, by omega, Lib.hid (HE2.out.up hbc13).bs, bel_trans hbw2 hbc13⟩)))
            · skip
              as_aux_lemma =>
                go_upto_region 35 with (go_at_call 10; refine (ref13_Held C5 k5 e5 a.h true _ (HE2.out.up hbc3).hh HYH.out).mono ?_; rintro e w4 ⟨rfl, hb4⟩; have hbc4 := bel_trans hbc3 hb4; clear al a_0 a_1 a_2; have al := (HE2.out.up hbc4).ba.lt; have a_0 := ((HE2.out.up hbc4).ba.box).2 0 _ rfl; have a_1 := ((HE2.out.up hbc4).ba.box).2 1 _ rfl; have a_2 := ((HE2.out.up hbc4).ba.box).2 2 _ rfl)
                have HW4 := Lib.hid (HW3.out.up hb4)
                have HY4 := Lib.hid (HY3.out.up hb4)
                have hz4 := hb4.size
                have hec0 := exB_iff.1 HEX.out
                obtain ⟨cn, hcn⟩ : ∃ cn : Nat, c = (cn : Int) := ⟨c.toNat, by have := hec0.2.2.1; omega⟩
                subst hcn
                obtain ⟨⟨⟨FP, FQ⟩, N⟩, hst⟩ : ∃ r, stepR a.h (s.drop cn) p q = r := ⟨_, rfl⟩
                have hmf := stepR_may a.h (s.drop cn) hec0.1
                rw [hst] at hmf
                have HEXN : Hid (exB FP FQ s ((cn : Int) + (N : Int)) = true) := Lib.hid (by have := (exB_step HEX.out hst).1; rw [Int.natCast_add] at this; exact this)
                have HMF := Lib.hid hmf
                have HST := Lib.hid hst
                clear hec0 hst hmf
                have hE4 := HE2.out.up hbc4
                have xl := hE4.bx.lt
                have x_0 := (hE4.bx.box).2 0 _ rfl; have x_1 := (hE4.bx.box).2 1 _ rfl; have x_2 := (hE4.bx.box).2 2 _ rfl; have x_3 := (hE4.bx.box).2 3 _ rfl
                clear hE4
                go_upto_region 36 with (go_at_call 11; refine (ref22_Step pA qA sA C5 pn pc qn qc sn sc k5 e5 p q s a.h cn FP FQ N _ (HE2.out.up hbc4).rx.p (HE2.out.up hbc4).rx.q (HE2.out.up hbc4).rx.s (HE2.out.up hbc4).hh HEX.out HYH.out (by omega) (by omega) HST.out).mono ?_; rintro e wa ⟨Ap, n7, cp, Aa, n8, ca, As, cs, rfl, hP7, hA7, hS7, hF7, hba⟩; have HFW := Lib.hid (hF7 gw (by omega)); have HFY := Lib.hid (hF7 gy (by omega)); have HRA := Lib.hid (ReadE.mk hP7 hA7 hS7); clear hP7 hA7 hS7 hF7; have hza := HW4.out.up hba; have zf := hza.frozen; have zl := hza.lt; have z_0 := (hza.box).2 0 _ rfl; have z_1 := (hza.box).2 1 _ rfl; have z_2 := (hza.box).2 2 _ rfl; have z_3 := (hza.box).2 3 _ rfl; clear hza)
                clear xl x_0 x_1 x_2 x_3
                clear zl zf z_0 z_1 z_2 z_3
                refine wp_world (fun Wb hWb => ?_)
                have hb4a := hba
                have HWb : Hid (Blk Wb gw 28 [.slice Ap n7 cp, .slice Aa n8 ca, .slice As sn cs, .int .i64 ((cn : Int) + (N : Int))]) := Lib.hid (by rw [hWb]; exact set4 (HW4.out.up hba) _ _ _ _)
                have HYb := Lib.hid (show Blk Wb gy _ _ from by rw [hWb]; exact (HY4.out.up hba).far4 (Ne.symm hwy) _ _ _ _)
                have hbcb : Below W2.heap.size W2 Wb := by rw [hWb]; exact bel_set4 (bel_trans hbc4 hba) hgw2 _ _ _ _
                have hyb : gy < Wb.heap.size := HYb.out.lt
                have hwb : gw < Wb.heap.size := HWb.out.lt
                have HWR0 : Hid (ReadE Wb Ap n7 Aa n8 As sn FP FQ s) := Lib.hid (by rw [hWb]; exact HRA.out.far4 ⟨HFW.out.1, HFW.out.2.1, HFW.out.2.2⟩ _ _ _ _)
                have HWF : Hid (FarE Ap n7 Aa n8 As sn gy) := Lib.hid ⟨HFY.out.1, HFY.out.2.1, HFY.out.2.2⟩
                clear HRA HFW HFY
                clear hWb hba hb4a HW4 HY4
                have hn7 : n7 ≤ 4096 := by rw [← HWR0.out.p.1]; exact HMF.out.1.1.1
                have hn8 : n8 ≤ 4096 := by rw [← HWR0.out.q.1]; exact HMF.out.1.2.1
                clear al a_0 a_1 a_2
                have al := (HE2.out.up hbcb).ba.lt
                have a_0 := ((HE2.out.up hbcb).ba.box).2 0 _ rfl; have a_1 := ((HE2.out.up hbcb).ba.box).2 1 _ rfl; have a_2 := ((HE2.out.up hbcb).ba.box).2 2 _ rfl
                go_upto_region 37 with (go_at_call 12; refine (ref0_CopyHelds C5 k5 e5 a.h _ (HE2.out.up hbcb).hh HBH.out).mono ?_; rintro e w5 ⟨v5, rfl, ho5, hb5⟩; obtain ⟨hA, hc, e5', hh5, -⟩ := ho5.helds HBH.out; rw [HPL.out.2.2.2.2] at e5' hh5; subst e5'; have HH5 := Lib.hid hh5; have HO5 := Lib.hid ho5; clear hh5 ho5)
                clear al a_0 a_1 a_2
                have hbc5 := bel_trans hbcb hb5
                have HW5 := Lib.hid (HWb.out.up hb5)
                have HY5 := Lib.hid (HYb.out.up hb5)
                have hE5 := HE2.out.up hbc5
                have il := hE5.bi.lt
                have i_0 := (hE5.bi.box).2 0 _ rfl; have i_1 := (hE5.bi.box).2 1 _ rfl; have i_2 := (hE5.bi.box).2 2 _ rfl; have i_3 := (hE5.bi.box).2 3 _ rfl
                clear hE5
                have hy5 : gy < w5.heap.size := Nat.lt_of_lt_of_le hyb hb5.size
                have hw5 : gw < w5.heap.size := Nat.lt_of_lt_of_le hwb hb5.size
                go_upto_region 38 with (go_at_call 13; refine (exec_Step_ok iA jA kA hA pn ic qn jc sn kc k5 hc p q s a.h cn FP FQ N _ (HE2.out.up hbc5).ri.p (HE2.out.up hbc5).ri.q (HE2.out.up hbc5).ri.s HH5.out HEX.out HYH.out (by omega) (by omega) HST.out).mono ?_; rintro e w6 ⟨vp, va, vs, rfl, hPO, hb6⟩; obtain ⟨Bp, dp, rfl, -⟩ := nmP hPO.p HWR0.out.p.1 (by omega); obtain ⟨Ba, da, rfl, -⟩ := nmA hPO.a HWR0.out.q.1 (by omega); obtain ⟨Bs, ds, rfl, -⟩ := nmI hPO.s HWR0.out.s.1 (by omega); have HPO := Lib.hid hPO; clear hPO)
                clear il i_0 i_1 i_2 i_3
                refine wp_world (fun W7 hW7 => ?_)
                obtain ⟨g4, hg4⟩ : ∃ g, g = w6.heap.size := ⟨_, rfl⟩
                have HZ7 : Hid (Blk W7 g4 28 [.slice Bp n7 dp, .slice Ba n8 da, .slice Bs sn ds, .int .i64 ((cn : Int) + (N : Int))]) := Lib.hid (by rw [hW7, hg4]; exact Blk.new w6 28 [.slice Bp n7 dp, .slice Ba n8 da, .slice Bs sn ds, .int .i64 ((cn : Int) + (N : Int))])
                have hb67 : Below w6.heap.size w6 W7 := by rw [hW7]; exact bel_alloc (Below.refl _ _)
                rw [← hg4]
                have hg4b : gy < g4 := by rw [hg4]; have h1 := hb5.size; have h2 := hb6.size; omega
                clear hW7 hg4
                have hb57 := bel_trans hb6 hb67
                have hbc6 := bel_trans hbc5 hb6
                have hbc7 := bel_trans hbc5 hb57
                have HW7 := Lib.hid (HW5.out.up hb57)
                have HY7 := Lib.hid (HY5.out.up hb57)
                have HO7 := Lib.hid ((HO5.out.up hb6).up hb67)
                have HYO7 := Lib.hid (HPO.out.up hb67)
                clear HPO
                have zl := HZ7.out.lt
                have z_0 := (HZ7.out.box).2 0 _ rfl; have z_1 := (HZ7.out.box).2 1 _ rfl; have z_2 := (HZ7.out.box).2 2 _ rfl; have z_3 := (HZ7.out.box).2 3 _ rfl
                have hY7 := HY7.out
                have yf := hY7.frozen
                have yl := hY7.lt
                have y_0 := (hY7.box).2 0 _ rfl; have y_1 := (hY7.box).2 1 _ rfl; have y_2 := (hY7.box).2 2 _ rfl; have y_3 := (hY7.box).2 3 _ rfl
                clear hY7
                go_upto_region 39 with fail
                refine wp_world (fun W8 hW8 => ?_)
                have HO8 : Hid (OwnHs W8 _ _ _) := Lib.hid (by rw [hW8]; exact HO7.out.low4 (by omega) _ _ _ _)
                have HY8 : Hid (Blk W8 gy 28 [.slice Bp n7 dp, .slice Ba n8 da, .slice Bs sn ds, .int .i64 ((cn : Int) + (N : Int))]) := Lib.hid (by rw [hW8]; exact set4 HY7.out _ _ _ _)
                have HW8 := Lib.hid (show Blk W8 gw _ _ from by rw [hW8]; exact HW7.out.far4 hwy _ _ _ _)
                have hbc8 : Below W2.heap.size W2 W8 := by rw [hW8]; exact bel_set4 hbc7 hgy2 _ _ _ _
                have hz58 : w5.heap.size ≤ W8.heap.size := by rw [hW8]; have h1 := hb57.size; simpa using h1
                have HYO8 : Hid (ExO W8 w5.heap.size (.slice Bp n7 dp) (.slice Ba n8 da) (.slice Bs sn ds) FP FQ s) := Lib.hid (by rw [hW8]; exact HYO7.out.set4 hy5 _ _ _ _)
                have hgr8 : Wb.grownBy W8 (some gy) := by rw [hW8]; exact grown_set4 (gr_bel (World.grownBy.refl _ _) (bel_trans hb5 hb57) (Nat.le_refl _)) _ _ _ _
                clear hW8 yl yf y_0 y_1 y_2 y_3 zl z_0 z_1 z_2 z_3 HY7 HW7
                clear HYO7 HMF
                obtain ⟨BY, hBY⟩ : ∃ b, b = w5.heap.size := ⟨_, rfl⟩
                rw [← hBY] at HYO8
                have hBY8 : BY ≤ W8.heap.size := by rw [hBY]; exact hz58
                have hBY2 : W2.heap.size ≤ BY := by rw [hBY]; exact hbc5.size
                have hgwB : gw < BY := by omega
                have hgrB : Wb.heap.size ≤ BY := by rw [hBY]; exact hb5.size
                clear hBY
                have hE8 := HE2.out.up hbc8
                have al := hE8.ba.lt
                have a_0 := (hE8.ba.box).2 0 _ rfl; have a_1 := (hE8.ba.box).2 1 _ rfl; have a_2 := (hE8.ba.box).2 2 _ rfl
                clear hE8
                obtain ⟨hA2, hc2, e52, hh52, -⟩ := HO8.out.helds HBH.out
                rw [HPL.out.2.2.2.2] at e52 hh52
                injection e52 with e521 e522 e523
                subst e521
                subst e523
                clear e522
                have HH8 := Lib.hid hh52
                clear hh52
                go_upto_region 51 with (go_at_call 14; refine (ref0_EqHelds hA k5 hc C5 k5 e5 a.h _ HH8.out (HE2.out.up hbc8).hh).mono ?_; rintro e W9 ⟨rfl, hb9⟩)
                clear al a_0 a_1 a_2
                have hbc9 := bel_trans hbc8 hb9
                have HW9 := Lib.hid (HW8.out.up hb9)
                have HY9 := Lib.hid (HY8.out.up hb9)
                have HYO9 := Lib.hid (HYO8.out.up hb9)
                have hgr9 := gr_bel hgr8 hb9 hgr8.size
                have hgrz := hgr9.size
                have HWR9 := Lib.hid (HWR0.out.gr HWF.out hgr9)
                have hBY9 := Nat.le_trans hBY8 hb9.size
                clear HW8 HY8 HYO8 hb9 hgr8
                have hyr := HYO9.out.rd HWR0.out.p.1 HWR0.out.q.1 HWR0.out.s.1 (by omega) (by omega) (by omega)
                have HYR9 := Lib.hid hyr
                clear hyr
                have yl := HY9.out.lt
                have y_0 := (HY9.out.box).2 0 _ rfl; have y_1 := (HY9.out.box).2 1 _ rfl; have y_2 := (HY9.out.box).2 2 _ rfl; have y_3 := (HY9.out.box).2 3 _ rfl
                have zl := HW9.out.lt
                have z_0 := (HW9.out.box).2 0 _ rfl; have z_1 := (HW9.out.box).2 1 _ rfl; have z_2 := (HW9.out.box).2 2 _ rfl; have z_3 := (HW9.out.box).2 3 _ rfl
                go_upto_region 53 with (first | (go_at_call 7; refine (law23_num _ _).mono ?_; rintro e w' ⟨rfl, rfl⟩) | (go_at_call 18; refine (ref0_EqExec iA jA kA pA qA sA pn ic qn jc sn kc pn pc qn qc sn sc p q s _ _ (HE2.out.up hbc10).ri.p (HE2.out.up hbc10).ri.q (HE2.out.up hbc10).ri.s (HE2.out.up hbc10).rx.p (HE2.out.up hbc10).rx.q (HE2.out.up hbc10).rx.s).mono ?_; rintro e w11 ⟨rfl, hb11⟩) | (go_at_call 18; refine (ref0_EqExec Bp Ba Bs Ap Aa As n7 dp n8 da sn ds n7 cp n8 ca sn cs FP FQ s ((cn : Int) + (N : Int)) _ HYR9.out.p HYR9.out.q HYR9.out.s HWR9.out.p HWR9.out.q HWR9.out.s).mono ?_; rintro e w10 ⟨rfl, hb10⟩; have hbc10 := bel_trans hbc9 hb10; clear yl y_0 y_1 y_2 y_3 zl z_0 z_1 z_2 z_3; have il := (HE2.out.up hbc10).bi.lt; have i_0 := ((HE2.out.up hbc10).bi.box).2 0 _ rfl; have i_1 := ((HE2.out.up hbc10).bi.box).2 1 _ rfl; have i_2 := ((HE2.out.up hbc10).bi.box).2 2 _ rfl; have i_3 := ((HE2.out.up hbc10).bi.box).2 3 _ rfl; have xl := (HE2.out.up hbc10).bx.lt; have x_0 := ((HE2.out.up hbc10).bx.box).2 0 _ rfl; have x_1 := ((HE2.out.up hbc10).bx.box).2 1 _ rfl; have x_2 := ((HE2.out.up hbc10).bx.box).2 2 _ rfl; have x_3 := ((HE2.out.up hbc10).bx.box).2 3 _ rfl))
                clear il i_0 i_1 i_2 i_3
                clear xl x_0 x_1 x_2 x_3
                have hb911 := bel_trans hb10 hb11
                have hbc11 := bel_trans hbc9 hb911
                have HY11 := Lib.hid (HY9.out.up hb911)
                have HYO11 := Lib.hid (HYO9.out.up hb911)
                have hBY11 := Nat.le_trans hBY9 hb911.size
                have yl := HY11.out.lt
                have y_0 := (HY11.out.box).2 0 _ rfl; have y_1 := (HY11.out.box).2 1 _ rfl; have y_2 := (HY11.out.box).2 2 _ rfl; have y_3 := (HY11.out.box).2 3 _ rfl
                go_upto_region 54 with (go_at_call 24; refine (law0_Exec _ _ _ _ _ _ _ BY _ HYO11.out hBY11 (by rw [HWR0.out.p.1]; omega) (by rw [HWR0.out.q.1]; omega) (by rw [HWR0.out.s.1]; omega)).mono ?_; rintro e w12 ⟨rfl, hb12⟩)
                clear yl y_0 y_1 y_2 y_3
                have hbc12 : Below W2.heap.size W2 w12 := Below.trans hbc11 (hb12.mono hBY2)
                have hE12 := HE2.out.up hbc12
                have il := hE12.bi.lt
                have i_0 := (hE12.bi.box).2 0 _ rfl; have i_1 := (hE12.bi.box).2 1 _ rfl; have i_2 := (hE12.bi.box).2 2 _ rfl; have i_3 := (hE12.bi.box).2 3 _ rfl
                have xl := hE12.bx.lt
                have x_0 := (hE12.bx.box).2 0 _ rfl; have x_1 := (hE12.bx.box).2 1 _ rfl; have x_2 := (hE12.bx.box).2 2 _ rfl; have x_3 := (hE12.bx.box).2 3 _ rfl
                clear hE12
                go_upto_region 56 with (go_at_call 18; refine (ref0_EqExec iA jA kA pA qA sA pn ic qn jc sn kc pn pc qn qc sn sc p q s _ _ (HE2.out.up hbc12).ri.p (HE2.out.up hbc12).ri.q (HE2.out.up hbc12).ri.s (HE2.out.up hbc12).rx.p (HE2.out.up hbc12).rx.q (HE2.out.up hbc12).rx.s).mono ?_; rintro e w13 ⟨rfl, hb13⟩)
                clear il i_0 i_1 i_2 i_3
                clear xl x_0 x_1 x_2 x_3
                have hbc13 := bel_trans hbc12 hb13
                have HW13 : Hid (Blk w13 gw 28 [.slice Ap n7 cp, .slice Aa n8 ca, .slice As sn cs, .int .i64 ((cn : Int) + (N : Int))]) := Lib.hid (((HW9.out.up hb911).bel hb12 hgwB).up hb13)
                have HWR13 : Hid (ReadE w13 Ap n7 Aa n8 As sn FP FQ s) := Lib.hid (HWR0.out.gr HWF.out (gr_bel (gr_bel (gr_bel hgr9 hb911 hgrz) hb12 hgrB) hb13 (Nat.le_trans (Nat.le_trans hgrB hBY11) hb12.size)))
                have zl := HW13.out.lt
                have z_0 := (HW13.out.box).2 0 _ rfl; have z_1 := (HW13.out.box).2 1 _ rfl; have z_2 := (HW13.out.box).2 2 _ rfl; have z_3 := (HW13.out.box).2 3 _ rfl
                have hX13 := (HE2.out.up hbc13).bx
                have xf := hX13.frozen
                have xl := hX13.lt
                have x_0 := (hX13.box).2 0 _ rfl; have x_1 := (hX13.box).2 1 _ rfl; have x_2 := (hX13.box).2 2 _ rfl; have x_3 := (hX13.box).2 3 _ rfl
                clear hX13
                have hgx2 := (HE2.out).bx.lt
                have HB13 := Lib.hid (HE2.out.up hbc13).bs
                have hbw13 := bel_trans hbw2 hbc13
                go_wp2_with (go_at_call 5; refine (ref0_CopyExec Ap Aa As n7 cp n8 ca sn cs FP FQ s ((cn : Int) + (N : Int)) _ HWR13.out.p HWR13.out.q HWR13.out.s (by omega) (by omega) (by omega)).mono ?_; rintro e w14 ⟨vp, va, vs, rfl, hO, hb14⟩; obtain ⟨fA, fc, rfl, -⟩ := nmP hO.p HWR13.out.p.1 (by omega); obtain ⟨gA, gc, rfl, -⟩ := nmA hO.a HWR13.out.q.1 (by omega); obtain ⟨hA9, hc9, rfl, -⟩ := nmI hO.s HWR13.out.s.1 (by omega); have HO14 := Lib.hid hO; clear hO xl xf x_0 x_1 x_2 x_3 zl z_0 z_1 z_2 z_3; have hX14 := (HE2.out.up hbc13).bx.up hb14; have xf := hX14.frozen; have xl := hX14.lt; have x_0 := (hX14.box).2 0 _ rfl; have x_1 := (hX14.box).2 1 _ rfl; have x_2 := (hX14.box).2 2 _ rfl; have x_3 := (hX14.box).2 3 _ rfl; have HX14 := Lib.hid hX14; clear hX14)
                clear xl xf x_0 x_1 x_2 x_3
                have hgxB : gx < w13.heap.size := (HE2.out.up hbc13).bx.lt
                have hbw14 := bel_trans hbw13 hb14
                have hck : sn ≤ hc9 := HO14.out.s.cap
                have hB14 := HB13.out.up hb14
                have hgSx : w.heap.size ≠ gx := hgSX
                (first | (go_round; (case rel => exact ⟨k + 1, fA, n7, fc, gA, n8, gc, hA9, sn, hc9, FP, FQ, s, ((cn : Int) + (N : Int)), by omega, by go_num, Lib.hid (set4 HX14.out _ _ _ _), Lib.hid ((HO14.out.set4 hgxB _ _ _ _).rd HWR13.out.p.1 HWR13.out.q.1 HWR13.out.s.1 (by omega) (by omega) (by omega)), HEXN, by omega, by omega, by omega, hck, by omega, Lib.hid (hB14.set4F hgSx _ _ _ _), bel_set4 hbw14 hgxw _ _ _ _⟩); (case measure => (simp [intOf] <;> omega))) | (go_roundw; (case rel => exact ⟨k + 1, fA, n7, fc, gA, n8, gc, hA9, sn, hc9, FP, FQ, s, ((cn : Int) + (N : Int)), by omega, by go_num, Lib.hid (set4 HX14.out _ _ _ _), Lib.hid ((HO14.out.set4 hgxB _ _ _ _).rd HWR13.out.p.1 HWR13.out.q.1 HWR13.out.s.1 (by omega) (by omega) (by omega)), HEXN, by omega, by omega, by omega, hck, by omega, Lib.hid (hB14.set4F hgSx _ _ _ _), bel_set4 hbw14 hgxw _ _ _ _⟩); (case measure => (simp [intOf] <;> omega))) | (refine ⟨?_, by simp [intOf] <;> omega⟩; (repeat apply Exists.intro); refine ⟨?rel, ?fr⟩; (case fr => ((repeat' apply And.intro) <;> rfl)); (case rel => exact ⟨k + 1, fA, n7, fc, gA, n8, gc, hA9, sn, hc9, FP, FQ, s, ((cn : Int) + (N : Int)), by omega, by go_num, Lib.hid (set4 HX14.out _ _ _ _), Lib.hid ((HO14.out.set4 hgxB _ _ _ _).rd HWR13.out.p.1 HWR13.out.q.1 HWR13.out.s.1 (by omega) (by omega) (by omega)), HEXN, by omega, by omega, by omega, hck, by omega, Lib.hid (hB14.set4F hgSx _ _ _ _), bel_set4 hbw14 hgxw _ _ _ _⟩)))
          · have z2 : ((r : Int) == 2) = false := by simp; omega
            by_cases h3 : r = 3
            · skip
              have z3 : ((r : Int) == 3) = true := by simp [h3]
              clear h3
              obtain ⟨yb, hyb⟩ : ∃ z, hdB a.h = z := ⟨_, rfl⟩
              have HYH := Lib.hid hyb
              clear hyb
              cases yb
              · skip
                as_aux_lemma =>
                  go_upto_region 36 with (go_at_call 10; refine (ref13_Held C5 k5 e5 a.h false _ (HE2.out.up hbc3).hh HYH.out).mono ?_; rintro e w4 ⟨rfl, hb4⟩; have hbc4 := bel_trans hbc3 hb4; clear al a_0 a_1 a_2; have al := (HE2.out.up hbc4).ba.lt; have a_0 := ((HE2.out.up hbc4).ba.box).2 0 _ rfl; have a_1 := ((HE2.out.up hbc4).ba.box).2 1 _ rfl; have a_2 := ((HE2.out.up hbc4).ba.box).2 2 _ rfl)
                  have HW4 := Lib.hid (HW3.out.up hb4)
                  have HY4 := Lib.hid (HY3.out.up hb4)
                  have hz4 := hb4.size
                  have HNO : Hid (¬ (exB p q s c = true ∧ hdB a.h = true)) := Lib.hid (fun g => by rw [HYH.out] at g; cases g.2)
                  go_upto_region 37 with (go_at_call 12; refine (ref0_CopyHelds C5 k5 e5 a.h _ (HE2.out.up hbc4).hh HBH.out).mono ?_; rintro e w5 ⟨v5, rfl, ho5, hb5⟩; obtain ⟨hA, hc, e5', hh5, -⟩ := ho5.helds HBH.out; rw [HPL.out.2.2.2.2] at e5' hh5; subst e5'; have HH5 := Lib.hid hh5; have HO5 := Lib.hid ho5; clear hh5 ho5)
                  clear al a_0 a_1 a_2
                  have hbc5 := bel_trans hbc4 hb5
                  have HW5 := Lib.hid (HW4.out.up hb5)
                  have HY5 := Lib.hid (HY4.out.up hb5)
                  have hE5 := HE2.out.up hbc5
                  have il := hE5.bi.lt
                  have i_0 := (hE5.bi.box).2 0 _ rfl; have i_1 := (hE5.bi.box).2 1 _ rfl; have i_2 := (hE5.bi.box).2 2 _ rfl; have i_3 := (hE5.bi.box).2 3 _ rfl
                  clear hE5
                  go_upto_region 38 with (go_at_call 13; refine (exec_Step_bad iA jA kA hA pn ic qn jc sn kc k5 hc p q s a.h c _ (HE2.out.up hbc5).ri.p (HE2.out.up hbc5).ri.q (HE2.out.up hbc5).ri.s HH5.out HNO.out).mono ?_; rintro e w6 ⟨rfl, hb6⟩)
                  clear il i_0 i_1 i_2 i_3
                  refine wp_world (fun W7 hW7 => ?_)
                  obtain ⟨g4, hg4⟩ : ∃ g, g = w6.heap.size := ⟨_, rfl⟩
                  have HZ7 : Hid (Blk W7 g4 28 [.slice none 0 0, .slice none 0 0, .slice none 0 0, .int .i64 0]) := Lib.hid (by rw [hW7, hg4]; exact Blk.new w6 28 [.slice none 0 0, .slice none 0 0, .slice none 0 0, .int .i64 0])
                  have hb67 : Below w6.heap.size w6 W7 := by rw [hW7]; exact bel_alloc (Below.refl _ _)
                  rw [← hg4]
                  have hg4b : gy < g4 := by rw [hg4]; have h1 := hb5.size; have h2 := hb6.size; omega
                  clear hW7 hg4
                  have hb57 := bel_trans hb6 hb67
                  have hbc6 := bel_trans hbc5 hb6
                  have hbc7 := bel_trans hbc5 hb57
                  have HW7 := Lib.hid (HW5.out.up hb57)
                  have HY7 := Lib.hid (HY5.out.up hb57)
                  have HO7 := Lib.hid ((HO5.out.up hb6).up hb67)
                  have zl := HZ7.out.lt
                  have z_0 := (HZ7.out.box).2 0 _ rfl; have z_1 := (HZ7.out.box).2 1 _ rfl; have z_2 := (HZ7.out.box).2 2 _ rfl; have z_3 := (HZ7.out.box).2 3 _ rfl
                  have hY7 := HY7.out
                  have yf := hY7.frozen
                  have yl := hY7.lt
                  have y_0 := (hY7.box).2 0 _ rfl; have y_1 := (hY7.box).2 1 _ rfl; have y_2 := (hY7.box).2 2 _ rfl; have y_3 := (hY7.box).2 3 _ rfl
                  clear hY7
                  go_upto_region 39 with fail
                  refine wp_world (fun W8 hW8 => ?_)
                  have HO8 : Hid (OwnHs W8 _ _ _) := Lib.hid (by rw [hW8]; exact HO7.out.low4 (by omega) _ _ _ _)
                  have HY8 : Hid (Blk W8 gy 28 [.slice none 0 0, .slice none 0 0, .slice none 0 0, .int .i64 0]) := Lib.hid (by rw [hW8]; exact set4 HY7.out _ _ _ _)
                  have HW8 := Lib.hid (show Blk W8 gw _ _ from by rw [hW8]; exact HW7.out.far4 hwy _ _ _ _)
                  have hbc8 : Below W2.heap.size W2 W8 := by rw [hW8]; exact bel_set4 hbc7 hgy2 _ _ _ _
                  have hz58 : w5.heap.size ≤ W8.heap.size := by rw [hW8]; have h1 := hb57.size; simpa using h1
                  clear hW8 yl yf y_0 y_1 y_2 y_3 zl z_0 z_1 z_2 z_3 HY7 HW7
                  have HYO8 := Lib.hid (ExO.nil W8 w5.heap.size)
                  have HWR8 : Hid (ReadE W8 none 0 none 0 none 0 [] [] []) := Lib.hid (ReadE.nil _ _ _ _)
                  obtain ⟨BY, hBY⟩ : ∃ b, b = w5.heap.size := ⟨_, rfl⟩
                  rw [← hBY] at HYO8
                  have hBY8 : BY ≤ W8.heap.size := by rw [hBY]; exact hz58
                  have hBY2 : W2.heap.size ≤ BY := by rw [hBY]; exact hbc5.size
                  clear hBY
                  have hE8 := HE2.out.up hbc8
                  have al := hE8.ba.lt
                  have a_0 := (hE8.ba.box).2 0 _ rfl; have a_1 := (hE8.ba.box).2 1 _ rfl; have a_2 := (hE8.ba.box).2 2 _ rfl
                  clear hE8
                  obtain ⟨hA2, hc2, e52, hh52, -⟩ := HO8.out.helds HBH.out
                  rw [HPL.out.2.2.2.2] at e52 hh52
                  injection e52 with e521 e522 e523
                  subst e521
                  subst e523
                  clear e522
                  have HH8 := Lib.hid hh52
                  clear hh52
                  go_upto_region 51 with (go_at_call 14; refine (ref0_EqHelds hA k5 hc C5 k5 e5 a.h _ HH8.out (HE2.out.up hbc8).hh).mono ?_; rintro e W9 ⟨rfl, hb9⟩)
                  clear al a_0 a_1 a_2
                  have hbc9 := bel_trans hbc8 hb9
                  have HW9 := Lib.hid (HW8.out.up hb9)
                  have HY9 := Lib.hid (HY8.out.up hb9)
                  have HYO9 := Lib.hid (HYO8.out.up hb9)
                  have HWR9 := Lib.hid (HWR8.out.up hb9)
                  have hBY9 := Nat.le_trans hBY8 hb9.size
                  clear HO8 HH8 HO7 HO5 HH5 HW8 HY8 HYO8 HWR8 hb9
                  have hyr := ReadE.nil W9 none none none
                  have HYR9 := Lib.hid hyr
                  clear hyr
                  have yl := HY9.out.lt
                  have y_0 := (HY9.out.box).2 0 _ rfl; have y_1 := (HY9.out.box).2 1 _ rfl; have y_2 := (HY9.out.box).2 2 _ rfl; have y_3 := (HY9.out.box).2 3 _ rfl
                  have zl := HW9.out.lt
                  have z_0 := (HW9.out.box).2 0 _ rfl; have z_1 := (HW9.out.box).2 1 _ rfl; have z_2 := (HW9.out.box).2 2 _ rfl; have z_3 := (HW9.out.box).2 3 _ rfl
                  go_upto_region 53 with (first | (go_at_call 7; refine (law23_num _ _).mono ?_; rintro e w' ⟨rfl, rfl⟩) | (go_at_call 18; refine (ref0_EqExec iA jA kA pA qA sA pn ic qn jc sn kc pn pc qn qc sn sc p q s _ _ (HE2.out.up hbc10).ri.p (HE2.out.up hbc10).ri.q (HE2.out.up hbc10).ri.s (HE2.out.up hbc10).rx.p (HE2.out.up hbc10).rx.q (HE2.out.up hbc10).rx.s).mono ?_; rintro e w11 ⟨rfl, hb11⟩) | (go_at_call 18; refine (ref0_EqExec none none none none none none 0 0 0 0 0 0 0 0 0 0 0 0 [] [] [] 0 _ HYR9.out.p HYR9.out.q HYR9.out.s HWR9.out.p HWR9.out.q HWR9.out.s).mono ?_; rintro e w10 ⟨rfl, hb10⟩; have hbc10 := bel_trans hbc9 hb10; clear yl y_0 y_1 y_2 y_3 zl z_0 z_1 z_2 z_3; have il := (HE2.out.up hbc10).bi.lt; have i_0 := ((HE2.out.up hbc10).bi.box).2 0 _ rfl; have i_1 := ((HE2.out.up hbc10).bi.box).2 1 _ rfl; have i_2 := ((HE2.out.up hbc10).bi.box).2 2 _ rfl; have i_3 := ((HE2.out.up hbc10).bi.box).2 3 _ rfl; have xl := (HE2.out.up hbc10).bx.lt; have x_0 := ((HE2.out.up hbc10).bx.box).2 0 _ rfl; have x_1 := ((HE2.out.up hbc10).bx.box).2 1 _ rfl; have x_2 := ((HE2.out.up hbc10).bx.box).2 2 _ rfl; have x_3 := ((HE2.out.up hbc10).bx.box).2 3 _ rfl))
                  clear il i_0 i_1 i_2 i_3
                  clear xl x_0 x_1 x_2 x_3
                  have hb911 := bel_trans hb10 hb11
                  have hbc11 := bel_trans hbc9 hb911
                  have HY11 := Lib.hid (HY9.out.up hb911)
                  have HYO11 := Lib.hid (HYO9.out.up hb911)
                  have hBY11 := Nat.le_trans hBY9 hb911.size
                  have yl := HY11.out.lt
                  have y_0 := (HY11.out.box).2 0 _ rfl; have y_1 := (HY11.out.box).2 1 _ rfl; have y_2 := (HY11.out.box).2 2 _ rfl; have y_3 := (HY11.out.box).2 3 _ rfl
                  go_upto_region 54 with (go_at_call 24; refine (law0_Exec _ _ _ _ _ _ _ BY _ HYO11.out hBY11 (by simp) (by simp) (by simp)).mono ?_; rintro e w12 ⟨rfl, hb12⟩)
                  clear yl y_0 y_1 y_2 y_3
                  have hbc12 : Below W2.heap.size W2 w12 := Below.trans hbc11 (hb12.mono hBY2)
                  have hE12 := HE2.out.up hbc12
                  have il := hE12.bi.lt
                  have i_0 := (hE12.bi.box).2 0 _ rfl; have i_1 := (hE12.bi.box).2 1 _ rfl; have i_2 := (hE12.bi.box).2 2 _ rfl; have i_3 := (hE12.bi.box).2 3 _ rfl
                  have xl := hE12.bx.lt
                  have x_0 := (hE12.bx.box).2 0 _ rfl; have x_1 := (hE12.bx.box).2 1 _ rfl; have x_2 := (hE12.bx.box).2 2 _ rfl; have x_3 := (hE12.bx.box).2 3 _ rfl
                  clear hE12
                  go_upto_region 56 with (go_at_call 18; refine (ref0_EqExec iA jA kA pA qA sA pn ic qn jc sn kc pn pc qn qc sn sc p q s _ _ (HE2.out.up hbc12).ri.p (HE2.out.up hbc12).ri.q (HE2.out.up hbc12).ri.s (HE2.out.up hbc12).rx.p (HE2.out.up hbc12).rx.q (HE2.out.up hbc12).rx.s).mono ?_; rintro e w13 ⟨rfl, hb13⟩)
                  clear il i_0 i_1 i_2 i_3
                  clear xl x_0 x_1 x_2 x_3
                  have hbc13 := bel_trans hbc12 hb13
                  go_wp2_with fail
                  (first | (go_round; (case rel => exact ⟨k + 1, pA, pn, pc, qA, qn, qc, sA, sn, sc, p, q, s, c, by omega, by go_num, Lib.hid (HE2.out.up hbc13).bx, Lib.hid (HE2.out.up hbc13).rx, HEX, hp4', hq4', by omega, hsk, by omega, Lib.hid (HE2.out.up hbc13).bs, bel_trans hbw2 hbc13⟩); (case measure => (simp [intOf] <;> omega))) | (go_roundw; (case rel => exact ⟨k + 1, pA, pn, pc, qA, qn, qc, sA, sn, sc, p, q, s, c, by omega, by go_num, Lib.hid (HE2.out.up hbc13).bx, Lib.hid (HE2.out.up hbc13).rx, HEX, hp4', hq4', by omega, hsk, by omega, Lib.hid (HE2.out.up hbc13).bs, bel_trans hbw2 hbc13⟩); (case measure => (simp [intOf] <;> omega))) | (refine ⟨?_, by simp [intOf] <;> omega⟩; (repeat apply Exists.intro); refine ⟨?rel, ?fr⟩; (case fr => ((repeat' apply And.intro) <;> rfl)); (case rel => exact ⟨k + 1, pA, pn, pc, qA, qn, qc, sA, sn, sc, p, q, s, c, by omega, by go_num, Lib.hid (HE2.out.up hbc13).bx, Lib.hid (HE2.out.up hbc13).rx, HEX, hp4', hq4', by omega, hsk, by omega, Lib.hid (HE2.out.up hbc13).bs, bel_trans hbw2 hbc13⟩)))
              · skip
                as_aux_lemma =>
                  go_upto_region 35 with (go_at_call 10; refine (ref13_Held C5 k5 e5 a.h true _ (HE2.out.up hbc3).hh HYH.out).mono ?_; rintro e w4 ⟨rfl, hb4⟩; have hbc4 := bel_trans hbc3 hb4; clear al a_0 a_1 a_2; have al := (HE2.out.up hbc4).ba.lt; have a_0 := ((HE2.out.up hbc4).ba.box).2 0 _ rfl; have a_1 := ((HE2.out.up hbc4).ba.box).2 1 _ rfl; have a_2 := ((HE2.out.up hbc4).ba.box).2 2 _ rfl)
                  have HW4 := Lib.hid (HW3.out.up hb4)
                  have HY4 := Lib.hid (HY3.out.up hb4)
                  have hz4 := hb4.size
                  have hec0 := exB_iff.1 HEX.out
                  obtain ⟨cn, hcn⟩ : ∃ cn : Nat, c = (cn : Int) := ⟨c.toNat, by have := hec0.2.2.1; omega⟩
                  subst hcn
                  obtain ⟨⟨⟨FP, FQ⟩, N⟩, hst⟩ : ∃ r, stepR a.h (s.drop cn) p q = r := ⟨_, rfl⟩
                  have hmf := stepR_may a.h (s.drop cn) hec0.1
                  rw [hst] at hmf
                  have HEXN : Hid (exB FP FQ s ((cn : Int) + (N : Int)) = true) := Lib.hid (by have := (exB_step HEX.out hst).1; rw [Int.natCast_add] at this; exact this)
                  have HMF := Lib.hid hmf
                  have HST := Lib.hid hst
                  clear hec0 hst hmf
                  have hE4 := HE2.out.up hbc4
                  have xl := hE4.bx.lt
                  have x_0 := (hE4.bx.box).2 0 _ rfl; have x_1 := (hE4.bx.box).2 1 _ rfl; have x_2 := (hE4.bx.box).2 2 _ rfl; have x_3 := (hE4.bx.box).2 3 _ rfl
                  clear hE4
                  go_upto_region 36 with (go_at_call 11; refine (ref22_Step pA qA sA C5 pn pc qn qc sn sc k5 e5 p q s a.h cn FP FQ N _ (HE2.out.up hbc4).rx.p (HE2.out.up hbc4).rx.q (HE2.out.up hbc4).rx.s (HE2.out.up hbc4).hh HEX.out HYH.out (by omega) (by omega) HST.out).mono ?_; rintro e wa ⟨Ap, n7, cp, Aa, n8, ca, As, cs, rfl, hP7, hA7, hS7, hF7, hba⟩; have HFW := Lib.hid (hF7 gw (by omega)); have HFY := Lib.hid (hF7 gy (by omega)); have HRA := Lib.hid (ReadE.mk hP7 hA7 hS7); clear hP7 hA7 hS7 hF7; have hza := HW4.out.up hba; have zf := hza.frozen; have zl := hza.lt; have z_0 := (hza.box).2 0 _ rfl; have z_1 := (hza.box).2 1 _ rfl; have z_2 := (hza.box).2 2 _ rfl; have z_3 := (hza.box).2 3 _ rfl; clear hza)
                  clear xl x_0 x_1 x_2 x_3
                  clear zl zf z_0 z_1 z_2 z_3
                  refine wp_world (fun Wb hWb => ?_)
                  have hb4a := hba
                  have HWb : Hid (Blk Wb gw 28 [.slice Ap n7 cp, .slice Aa n8 ca, .slice As sn cs, .int .i64 ((cn : Int) + (N : Int))]) := Lib.hid (by rw [hWb]; exact set4 (HW4.out.up hba) _ _ _ _)
                  have HYb := Lib.hid (show Blk Wb gy _ _ from by rw [hWb]; exact (HY4.out.up hba).far4 (Ne.symm hwy) _ _ _ _)
                  have hbcb : Below W2.heap.size W2 Wb := by rw [hWb]; exact bel_set4 (bel_trans hbc4 hba) hgw2 _ _ _ _
                  have hyb : gy < Wb.heap.size := HYb.out.lt
                  have hwb : gw < Wb.heap.size := HWb.out.lt
                  have HWR0 : Hid (ReadE Wb Ap n7 Aa n8 As sn FP FQ s) := Lib.hid (by rw [hWb]; exact HRA.out.far4 ⟨HFW.out.1, HFW.out.2.1, HFW.out.2.2⟩ _ _ _ _)
                  have HWF : Hid (FarE Ap n7 Aa n8 As sn gy) := Lib.hid ⟨HFY.out.1, HFY.out.2.1, HFY.out.2.2⟩
                  clear HRA HFW HFY
                  clear hWb hba hb4a HW4 HY4
                  have hn7 : n7 ≤ 4096 := by rw [← HWR0.out.p.1]; exact HMF.out.1.1.1
                  have hn8 : n8 ≤ 4096 := by rw [← HWR0.out.q.1]; exact HMF.out.1.2.1
                  clear al a_0 a_1 a_2
                  have al := (HE2.out.up hbcb).ba.lt
                  have a_0 := ((HE2.out.up hbcb).ba.box).2 0 _ rfl; have a_1 := ((HE2.out.up hbcb).ba.box).2 1 _ rfl; have a_2 := ((HE2.out.up hbcb).ba.box).2 2 _ rfl
                  go_upto_region 37 with (go_at_call 12; refine (ref0_CopyHelds C5 k5 e5 a.h _ (HE2.out.up hbcb).hh HBH.out).mono ?_; rintro e w5 ⟨v5, rfl, ho5, hb5⟩; obtain ⟨hA, hc, e5', hh5, -⟩ := ho5.helds HBH.out; rw [HPL.out.2.2.2.2] at e5' hh5; subst e5'; have HH5 := Lib.hid hh5; have HO5 := Lib.hid ho5; clear hh5 ho5)
                  clear al a_0 a_1 a_2
                  have hbc5 := bel_trans hbcb hb5
                  have HW5 := Lib.hid (HWb.out.up hb5)
                  have HY5 := Lib.hid (HYb.out.up hb5)
                  have hE5 := HE2.out.up hbc5
                  have il := hE5.bi.lt
                  have i_0 := (hE5.bi.box).2 0 _ rfl; have i_1 := (hE5.bi.box).2 1 _ rfl; have i_2 := (hE5.bi.box).2 2 _ rfl; have i_3 := (hE5.bi.box).2 3 _ rfl
                  clear hE5
                  have hy5 : gy < w5.heap.size := Nat.lt_of_lt_of_le hyb hb5.size
                  have hw5 : gw < w5.heap.size := Nat.lt_of_lt_of_le hwb hb5.size
                  go_upto_region 38 with (go_at_call 13; refine (exec_Step_ok iA jA kA hA pn ic qn jc sn kc k5 hc p q s a.h cn FP FQ N _ (HE2.out.up hbc5).ri.p (HE2.out.up hbc5).ri.q (HE2.out.up hbc5).ri.s HH5.out HEX.out HYH.out (by omega) (by omega) HST.out).mono ?_; rintro e w6 ⟨vp, va, vs, rfl, hPO, hb6⟩; obtain ⟨Bp, dp, rfl, -⟩ := nmP hPO.p HWR0.out.p.1 (by omega); obtain ⟨Ba, da, rfl, -⟩ := nmA hPO.a HWR0.out.q.1 (by omega); obtain ⟨Bs, ds, rfl, -⟩ := nmI hPO.s HWR0.out.s.1 (by omega); have HPO := Lib.hid hPO; clear hPO)
                  clear il i_0 i_1 i_2 i_3
                  refine wp_world (fun W7 hW7 => ?_)
                  obtain ⟨g4, hg4⟩ : ∃ g, g = w6.heap.size := ⟨_, rfl⟩
                  have HZ7 : Hid (Blk W7 g4 28 [.slice Bp n7 dp, .slice Ba n8 da, .slice Bs sn ds, .int .i64 ((cn : Int) + (N : Int))]) := Lib.hid (by rw [hW7, hg4]; exact Blk.new w6 28 [.slice Bp n7 dp, .slice Ba n8 da, .slice Bs sn ds, .int .i64 ((cn : Int) + (N : Int))])
                  have hb67 : Below w6.heap.size w6 W7 := by rw [hW7]; exact bel_alloc (Below.refl _ _)
                  rw [← hg4]
                  have hg4b : gy < g4 := by rw [hg4]; have h1 := hb5.size; have h2 := hb6.size; omega
                  clear hW7 hg4
                  have hb57 := bel_trans hb6 hb67
                  have hbc6 := bel_trans hbc5 hb6
                  have hbc7 := bel_trans hbc5 hb57
                  have HW7 := Lib.hid (HW5.out.up hb57)
                  have HY7 := Lib.hid (HY5.out.up hb57)
                  have HO7 := Lib.hid ((HO5.out.up hb6).up hb67)
                  have HYO7 := Lib.hid (HPO.out.up hb67)
                  clear HPO
                  have zl := HZ7.out.lt
                  have z_0 := (HZ7.out.box).2 0 _ rfl; have z_1 := (HZ7.out.box).2 1 _ rfl; have z_2 := (HZ7.out.box).2 2 _ rfl; have z_3 := (HZ7.out.box).2 3 _ rfl
                  have hY7 := HY7.out
                  have yf := hY7.frozen
                  have yl := hY7.lt
                  have y_0 := (hY7.box).2 0 _ rfl; have y_1 := (hY7.box).2 1 _ rfl; have y_2 := (hY7.box).2 2 _ rfl; have y_3 := (hY7.box).2 3 _ rfl
                  clear hY7
                  go_upto_region 39 with fail
                  refine wp_world (fun W8 hW8 => ?_)
                  have HO8 : Hid (OwnHs W8 _ _ _) := Lib.hid (by rw [hW8]; exact HO7.out.low4 (by omega) _ _ _ _)
                  have HY8 : Hid (Blk W8 gy 28 [.slice Bp n7 dp, .slice Ba n8 da, .slice Bs sn ds, .int .i64 ((cn : Int) + (N : Int))]) := Lib.hid (by rw [hW8]; exact set4 HY7.out _ _ _ _)
                  have HW8 := Lib.hid (show Blk W8 gw _ _ from by rw [hW8]; exact HW7.out.far4 hwy _ _ _ _)
                  have hbc8 : Below W2.heap.size W2 W8 := by rw [hW8]; exact bel_set4 hbc7 hgy2 _ _ _ _
                  have hz58 : w5.heap.size ≤ W8.heap.size := by rw [hW8]; have h1 := hb57.size; simpa using h1
                  have HYO8 : Hid (ExO W8 w5.heap.size (.slice Bp n7 dp) (.slice Ba n8 da) (.slice Bs sn ds) FP FQ s) := Lib.hid (by rw [hW8]; exact HYO7.out.set4 hy5 _ _ _ _)
                  have hgr8 : Wb.grownBy W8 (some gy) := by rw [hW8]; exact grown_set4 (gr_bel (World.grownBy.refl _ _) (bel_trans hb5 hb57) (Nat.le_refl _)) _ _ _ _
                  clear hW8 yl yf y_0 y_1 y_2 y_3 zl z_0 z_1 z_2 z_3 HY7 HW7
                  clear HYO7 HMF
                  obtain ⟨BY, hBY⟩ : ∃ b, b = w5.heap.size := ⟨_, rfl⟩
                  rw [← hBY] at HYO8
                  have hBY8 : BY ≤ W8.heap.size := by rw [hBY]; exact hz58
                  have hBY2 : W2.heap.size ≤ BY := by rw [hBY]; exact hbc5.size
                  have hgwB : gw < BY := by omega
                  have hgrB : Wb.heap.size ≤ BY := by rw [hBY]; exact hb5.size
                  clear hBY
                  have hE8 := HE2.out.up hbc8
                  have al := hE8.ba.lt
                  have a_0 := (hE8.ba.box).2 0 _ rfl; have a_1 := (hE8.ba.box).2 1 _ rfl; have a_2 := (hE8.ba.box).2 2 _ rfl
                  clear hE8
                  obtain ⟨hA2, hc2, e52, hh52, -⟩ := HO8.out.helds HBH.out
                  rw [HPL.out.2.2.2.2] at e52 hh52
                  injection e52 with e521 e522 e523
                  subst e521
                  subst e523
                  clear e522
                  have HH8 := Lib.hid hh52
                  clear hh52
                  go_upto_region 51 with (go_at_call 14; refine (ref0_EqHelds hA k5 hc C5 k5 e5 a.h _ HH8.out (HE2.out.up hbc8).hh).mono ?_; rintro e W9 ⟨rfl, hb9⟩)
                  clear al a_0 a_1 a_2
                  have hbc9 := bel_trans hbc8 hb9
                  have HW9 := Lib.hid (HW8.out.up hb9)
                  have HY9 := Lib.hid (HY8.out.up hb9)
                  have HYO9 := Lib.hid (HYO8.out.up hb9)
                  have hgr9 := gr_bel hgr8 hb9 hgr8.size
                  have hgrz := hgr9.size
                  have HWR9 := Lib.hid (HWR0.out.gr HWF.out hgr9)
                  have hBY9 := Nat.le_trans hBY8 hb9.size
                  clear HW8 HY8 HYO8 hb9 hgr8
                  have hyr := HYO9.out.rd HWR0.out.p.1 HWR0.out.q.1 HWR0.out.s.1 (by omega) (by omega) (by omega)
                  have HYR9 := Lib.hid hyr
                  clear hyr
                  have yl := HY9.out.lt
                  have y_0 := (HY9.out.box).2 0 _ rfl; have y_1 := (HY9.out.box).2 1 _ rfl; have y_2 := (HY9.out.box).2 2 _ rfl; have y_3 := (HY9.out.box).2 3 _ rfl
                  have zl := HW9.out.lt
                  have z_0 := (HW9.out.box).2 0 _ rfl; have z_1 := (HW9.out.box).2 1 _ rfl; have z_2 := (HW9.out.box).2 2 _ rfl; have z_3 := (HW9.out.box).2 3 _ rfl
                  go_upto_region 53 with (first | (go_at_call 7; refine (law23_num _ _).mono ?_; rintro e w' ⟨rfl, rfl⟩) | (go_at_call 18; refine (ref0_EqExec iA jA kA pA qA sA pn ic qn jc sn kc pn pc qn qc sn sc p q s _ _ (HE2.out.up hbc10).ri.p (HE2.out.up hbc10).ri.q (HE2.out.up hbc10).ri.s (HE2.out.up hbc10).rx.p (HE2.out.up hbc10).rx.q (HE2.out.up hbc10).rx.s).mono ?_; rintro e w11 ⟨rfl, hb11⟩) | (go_at_call 18; refine (ref0_EqExec Bp Ba Bs Ap Aa As n7 dp n8 da sn ds n7 cp n8 ca sn cs FP FQ s ((cn : Int) + (N : Int)) _ HYR9.out.p HYR9.out.q HYR9.out.s HWR9.out.p HWR9.out.q HWR9.out.s).mono ?_; rintro e w10 ⟨rfl, hb10⟩; have hbc10 := bel_trans hbc9 hb10; clear yl y_0 y_1 y_2 y_3 zl z_0 z_1 z_2 z_3; have il := (HE2.out.up hbc10).bi.lt; have i_0 := ((HE2.out.up hbc10).bi.box).2 0 _ rfl; have i_1 := ((HE2.out.up hbc10).bi.box).2 1 _ rfl; have i_2 := ((HE2.out.up hbc10).bi.box).2 2 _ rfl; have i_3 := ((HE2.out.up hbc10).bi.box).2 3 _ rfl; have xl := (HE2.out.up hbc10).bx.lt; have x_0 := ((HE2.out.up hbc10).bx.box).2 0 _ rfl; have x_1 := ((HE2.out.up hbc10).bx.box).2 1 _ rfl; have x_2 := ((HE2.out.up hbc10).bx.box).2 2 _ rfl; have x_3 := ((HE2.out.up hbc10).bx.box).2 3 _ rfl))
                  clear il i_0 i_1 i_2 i_3
                  clear xl x_0 x_1 x_2 x_3
                  have hb911 := bel_trans hb10 hb11
                  have hbc11 := bel_trans hbc9 hb911
                  have HY11 := Lib.hid (HY9.out.up hb911)
                  have HYO11 := Lib.hid (HYO9.out.up hb911)
                  have hBY11 := Nat.le_trans hBY9 hb911.size
                  have yl := HY11.out.lt
                  have y_0 := (HY11.out.box).2 0 _ rfl; have y_1 := (HY11.out.box).2 1 _ rfl; have y_2 := (HY11.out.box).2 2 _ rfl; have y_3 := (HY11.out.box).2 3 _ rfl
                  go_upto_region 54 with (go_at_call 24; refine (law0_Exec _ _ _ _ _ _ _ BY _ HYO11.out hBY11 (by rw [HWR0.out.p.1]; omega) (by rw [HWR0.out.q.1]; omega) (by rw [HWR0.out.s.1]; omega)).mono ?_; rintro e w12 ⟨rfl, hb12⟩)
                  clear yl y_0 y_1 y_2 y_3
                  have hbc12 : Below W2.heap.size W2 w12 := Below.trans hbc11 (hb12.mono hBY2)
                  have hE12 := HE2.out.up hbc12
                  have il := hE12.bi.lt
                  have i_0 := (hE12.bi.box).2 0 _ rfl; have i_1 := (hE12.bi.box).2 1 _ rfl; have i_2 := (hE12.bi.box).2 2 _ rfl; have i_3 := (hE12.bi.box).2 3 _ rfl
                  have xl := hE12.bx.lt
                  have x_0 := (hE12.bx.box).2 0 _ rfl; have x_1 := (hE12.bx.box).2 1 _ rfl; have x_2 := (hE12.bx.box).2 2 _ rfl; have x_3 := (hE12.bx.box).2 3 _ rfl
                  clear hE12
                  go_upto_region 56 with (go_at_call 18; refine (ref0_EqExec iA jA kA pA qA sA pn ic qn jc sn kc pn pc qn qc sn sc p q s _ _ (HE2.out.up hbc12).ri.p (HE2.out.up hbc12).ri.q (HE2.out.up hbc12).ri.s (HE2.out.up hbc12).rx.p (HE2.out.up hbc12).rx.q (HE2.out.up hbc12).rx.s).mono ?_; rintro e w13 ⟨rfl, hb13⟩)
                  clear il i_0 i_1 i_2 i_3
                  clear xl x_0 x_1 x_2 x_3
                  have hbc13 := bel_trans hbc12 hb13
                  have HW13 : Hid (Blk w13 gw 28 [.slice Ap n7 cp, .slice Aa n8 ca, .slice As sn cs, .int .i64 ((cn : Int) + (N : Int))]) := Lib.hid (((HW9.out.up hb911).bel hb12 hgwB).up hb13)
                  have HWR13 : Hid (ReadE w13 Ap n7 Aa n8 As sn FP FQ s) := Lib.hid (HWR0.out.gr HWF.out (gr_bel (gr_bel (gr_bel hgr9 hb911 hgrz) hb12 hgrB) hb13 (Nat.le_trans (Nat.le_trans hgrB hBY11) hb12.size)))
                  have zl := HW13.out.lt
                  have z_0 := (HW13.out.box).2 0 _ rfl; have z_1 := (HW13.out.box).2 1 _ rfl; have z_2 := (HW13.out.box).2 2 _ rfl; have z_3 := (HW13.out.box).2 3 _ rfl
                  have hX13 := (HE2.out.up hbc13).bx
                  have xf := hX13.frozen
                  have xl := hX13.lt
                  have x_0 := (hX13.box).2 0 _ rfl; have x_1 := (hX13.box).2 1 _ rfl; have x_2 := (hX13.box).2 2 _ rfl; have x_3 := (hX13.box).2 3 _ rfl
                  clear hX13
                  have hgx2 := (HE2.out).bx.lt
                  have HB13 := Lib.hid (HE2.out.up hbc13).bs
                  have hbw13 := bel_trans hbw2 hbc13
                  go_wp2_with (go_at_call 5; refine (ref0_CopyExec Ap Aa As n7 cp n8 ca sn cs FP FQ s ((cn : Int) + (N : Int)) _ HWR13.out.p HWR13.out.q HWR13.out.s (by omega) (by omega) (by omega)).mono ?_; rintro e w14 ⟨vp, va, vs, rfl, hO, hb14⟩; obtain ⟨fA, fc, rfl, -⟩ := nmP hO.p HWR13.out.p.1 (by omega); obtain ⟨gA, gc, rfl, -⟩ := nmA hO.a HWR13.out.q.1 (by omega); obtain ⟨hA9, hc9, rfl, -⟩ := nmI hO.s HWR13.out.s.1 (by omega); have HO14 := Lib.hid hO; clear hO xl xf x_0 x_1 x_2 x_3 zl z_0 z_1 z_2 z_3; have hX14 := (HE2.out.up hbc13).bx.up hb14; have xf := hX14.frozen; have xl := hX14.lt; have x_0 := (hX14.box).2 0 _ rfl; have x_1 := (hX14.box).2 1 _ rfl; have x_2 := (hX14.box).2 2 _ rfl; have x_3 := (hX14.box).2 3 _ rfl; have HX14 := Lib.hid hX14; clear hX14)
                  clear xl xf x_0 x_1 x_2 x_3
                  have hgxB : gx < w13.heap.size := (HE2.out.up hbc13).bx.lt
                  have hbw14 := bel_trans hbw13 hb14
                  have hck : sn ≤ hc9 := HO14.out.s.cap
                  have hB14 := HB13.out.up hb14
                  have hgSx : w.heap.size ≠ gx := hgSX
                  (first | (go_round; (case rel => exact ⟨k + 1, fA, n7, fc, gA, n8, gc, hA9, sn, hc9, FP, FQ, s, ((cn : Int) + (N : Int)), by omega, by go_num, Lib.hid (set4 HX14.out _ _ _ _), Lib.hid ((HO14.out.set4 hgxB _ _ _ _).rd HWR13.out.p.1 HWR13.out.q.1 HWR13.out.s.1 (by omega) (by omega) (by omega)), HEXN, by omega, by omega, by omega, hck, by omega, Lib.hid (hB14.set4F hgSx _ _ _ _), bel_set4 hbw14 hgxw _ _ _ _⟩); (case measure => (simp [intOf] <;> omega))) | (go_roundw; (case rel => exact ⟨k + 1, fA, n7, fc, gA, n8, gc, hA9, sn, hc9, FP, FQ, s, ((cn : Int) + (N : Int)), by omega, by go_num, Lib.hid (set4 HX14.out _ _ _ _), Lib.hid ((HO14.out.set4 hgxB _ _ _ _).rd HWR13.out.p.1 HWR13.out.q.1 HWR13.out.s.1 (by omega) (by omega) (by omega)), HEXN, by omega, by omega, by omega, hck, by omega, Lib.hid (hB14.set4F hgSx _ _ _ _), bel_set4 hbw14 hgxw _ _ _ _⟩); (case measure => (simp [intOf] <;> omega))) | (refine ⟨?_, by simp [intOf] <;> omega⟩; (repeat apply Exists.intro); refine ⟨?rel, ?fr⟩; (case fr => ((repeat' apply And.intro) <;> rfl)); (case rel => exact ⟨k + 1, fA, n7, fc, gA, n8, gc, hA9, sn, hc9, FP, FQ, s, ((cn : Int) + (N : Int)), by omega, by go_num, Lib.hid (set4 HX14.out _ _ _ _), Lib.hid ((HO14.out.set4 hgxB _ _ _ _).rd HWR13.out.p.1 HWR13.out.q.1 HWR13.out.s.1 (by omega) (by omega) (by omega)), HEXN, by omega, by omega, by omega, hck, by omega, Lib.hid (hB14.set4F hgSx _ _ _ _), bel_set4 hbw14 hgxw _ _ _ _⟩)))
            · have z3 : ((r : Int) == 3) = false := by simp; omega
              obtain ⟨yb, hyb⟩ : ∃ z, betS a.l 1 65536 = z := ⟨_, rfl⟩
              have HYD := Lib.hid hyb
              clear hyb
              cases yb
              · skip
                as_aux_lemma =>
                  go_upto_region 24 with (go_at_call 20; refine (ref0_DigestsB A5 m5 d5 a.l false _ (HE2.out.up hbc3).hi HYD.out).mono ?_; rintro e w4 ⟨rfl, hb4⟩; have hbc4 := bel_trans hbc3 hb4; clear al a_0 a_1 a_2; have al := (HE2.out.up hbc4).ba.lt; have a_0 := ((HE2.out.up hbc4).ba.box).2 0 _ rfl; have a_1 := ((HE2.out.up hbc4).ba.box).2 1 _ rfl; have a_2 := ((HE2.out.up hbc4).ba.box).2 2 _ rfl)
                  have HW4 := Lib.hid (HW3.out.up hb4)
                  have HY4 := Lib.hid (HY3.out.up hb4)
                  have hz4 := hb4.size
                  have HNO : Hid (¬ (exB p q s c = true ∧ betS a.l 1 65536 = true)) := Lib.hid (fun g => by rw [HYD.out] at g; cases g.2)
                  obtain ⟨Wb, hWb⟩ : ∃ x, x = w4 := ⟨_, rfl⟩
                  subst hWb
                  have hbcb := hbc4
                  have HWb := HW4
                  have HYb := HY4
                  have hyb : gy < Wb.heap.size := HYb.out.lt
                  have hwb : gw < Wb.heap.size := HWb.out.lt
                  have HIb := Lib.hid (HE2.out.up hbcb).hi
                  have HIb2 := Lib.hid (HE2.out.up hbcb).ri
                  obtain ⟨S, hSd⟩ : ∃ S : World → Prop, S = fun Q => Q.rangeAt gi 0 [.slice iA pn ic, .slice jA qn jc, .slice kA sn kc, .int .i64 c] ∧ Q.cell? ⟨ga, 1, none⟩ = some (.slice A5 m5 d5) := ⟨_, rfl⟩
                  have hS1 : ∀ Q, S Q → Q.rangeAt gi 0 [.slice iA pn ic, .slice jA qn jc, .slice kA sn kc, .int .i64 c] := fun Q h => by rw [hSd] at h; exact h.1
                  have hS2 : ∀ Q, S Q → Q.cell? ⟨ga, 1, none⟩ = some (.slice A5 m5 d5) := fun Q h => by rw [hSd] at h; exact h.2
                  have hS : ∀ Q, Below Wb.heap.size Wb Q → S Q := fun Q hQ => by rw [hSd]; exact ⟨((HE2.out.up hbcb).bi.up hQ).rng, ((HE2.out.up hbcb).ba.up hQ).box.2 1 _ rfl⟩
                  clear hSd al a_0 a_1 a_2
                  go_cut [21, 22, 23] from 76 to 84 (fun s21 s22 s23 wx => ∃ (g : Nat), s21 = .pointer (some ⟨g, 0, none⟩) ∧ s22 = .slice none 0 0 ∧ s23 = .int .i64 1 ∧ Wb.heap.size ≤ g ∧ Hid (Blk wx g 28 [.slice none 0 0, .slice none 0 0, .slice none 0 0, .int .i64 0]) ∧ Below Wb.heap.size Wb wx)
                  case first =>
                    refine wp_region_held_drew (S := S) (by kernel_rfl) (hS _ (bel_drew (Below.refl _ _))) (fun hHeld => ?_)
                    have hbd : Below Wb.heap.size Wb Wb.drew := bel_drew (Below.refl _ _)
                    generalize Wb.drew = Z at *
                    refine wpAnyH_takeD (i := 0) (d := (some 77)) (v := .agg ([.slice iA pn ic, .slice jA qn jc, .slice kA sn kc, .int .i64 c]).toArray) rfl rfl (by kernel_rfl) (by kernel_rfl) (by kernel_rfl) (fun _ _ _ h => h) (yieldsIf_load_mid (by rfl) 28 _ rfl gi 0 (by simp [Act.eval, Act.put]) ([.slice iA pn ic, .slice jA qn jc, .slice kA sn kc, .int .i64 c]) _ (hS1) Tryz.underlying28 (by rfl) (by kernel_rfl)) (by assumption) ?_
                    simp only [Act.put, List.setIfInBounds_toArray, List.set_cons_zero, List.set_cons_succ]
                    (refine wpAnyH_tk 1 (some 78) (v := ?_) rfl rfl ?_ ?_; rotate_left; (focus (intro wq hSw; clear hSw; go_simp; all_goals (with_reducible rfl))); simp only [Act.put, List.setIfInBounds_toArray, List.set_cons_zero, List.set_cons_succ])
                    (refine wpAnyH_tk 2 (some 79) (v := ?_) rfl rfl ?_ ?_; rotate_left; (focus (intro wq hSw; have q1 := hS2 wq hSw; clear hSw; go_simp; all_goals (with_reducible rfl))); simp only [Act.put, List.setIfInBounds_toArray, List.set_cons_zero, List.set_cons_succ])
                    refine wpAnyH_ready (rs := [3, 9]) (by kernel_rfl) (by simp) ?_
                    refine AllReadyH.cons (o := _) rfl (fun K hK => ?_) (AllReadyH.cons (o := _) rfl (fun K hK => ?_) AllReadyH.nil)
                    · skip
                      go_simp
                      (go_at_call 23; refine (ref0_CopyNumbers A5 m5 d5 a.l _ (HIb.out.up (hbd)) (by omega)).mono ?_; rintro e w5 ⟨v5, rfl, hU, hb5⟩; obtain ⟨uA, uc, rfl, hu5⟩ := nmI hU HPL.out.2.2.2.1 (by omega); clear hU)
                      have hbb5 := bel_trans (hbd) hb5
                      refine hK.out _ _ (hS _ hbb5) (fun hHeld => ?_)
                      clear hK K
                      (try simp only [Act.put, List.setIfInBounds_toArray, List.set_cons_zero, List.set_cons_succ])
                      refine wpAnyH_ready (rs := [4, 9]) (by kernel_rfl) (by simp) ?_
                      refine AllReadyH.cons (o := _) rfl (fun K hK => ?_) (AllReadyH.cons (o := _) rfl (fun K hK => ?_) AllReadyH.nil)
                      · skip
                        go_simp
                        (go_at_call 22; refine (exec_Push_bad iA jA kA uA pn ic qn jc sn kc m5 uc p q s a.l c _ (HIb2.out.p.up (hbb5)) (HIb2.out.q.up (hbb5)) (HIb2.out.s.up (hbb5)) hu5 HNO.out).mono ?_; rintro e w6 ⟨rfl, hb6⟩)
                        have hbb6 := bel_trans (hbb5) hb6
                        refine hK.out _ _ (hS _ hbb6) (fun hHeld => ?_)
                        clear hK K
                        (try simp only [Act.put, List.setIfInBounds_toArray, List.set_cons_zero, List.set_cons_succ])
                        (refine wpAnyH_tk 5 (some 76) (v := ?_) rfl rfl ?_ ?_; rotate_left; (focus (intro wq hSw; clear hSw; go_simp; all_goals (with_reducible rfl))); simp only [Act.put, List.setIfInBounds_toArray, List.set_cons_zero, List.set_cons_succ])
                        (refine wpAnyH_tk 6 (some 82) (v := ?_) rfl rfl ?_ ?_; rotate_left; (focus (intro wq hSw; clear hSw; go_simp; all_goals (with_reducible rfl))); simp only [Act.put, List.setIfInBounds_toArray, List.set_cons_zero, List.set_cons_succ])
                        (refine wpAnyH_tk 7 (some 83) (v := ?_) rfl rfl ?_ ?_; rotate_left; (focus (intro wq hSw; clear hSw; go_simp; all_goals (with_reducible rfl))); simp only [Act.put, List.setIfInBounds_toArray, List.set_cons_zero, List.set_cons_succ])
                        (refine wpAnyH_tk 8 (some 84) (v := ?_) rfl rfl ?_ ?_; rotate_left; (focus (intro wq hSw; clear hSw; go_simp; all_goals (with_reducible rfl))); simp only [Act.put, List.setIfInBounds_toArray, List.set_cons_zero, List.set_cons_succ])
                        refine wpAnyH_ready (rs := [9]) (by kernel_rfl) (by simp) ?_
                        refine AllReadyH.cons (o := _) rfl (fun K hK => ?_) AllReadyH.nil
                        go_simp
                        obtain ⟨g4, hg4⟩ : ∃ g, g = w6.heap.size := ⟨_, rfl⟩
                        obtain ⟨ZB, hZB⟩ : ∃ Zq : World, Zq = w6.alloc (.cells #[.slice none 0 0, .slice none 0 0, .slice none 0 0, .int .i64 0] 28) := ⟨_, rfl⟩
                        rw [← hg4, ← hZB]
                        have hza : Blk ZB g4 28 [.slice none 0 0, .slice none 0 0, .slice none 0 0, .int .i64 0] := by rw [hZB, hg4]; exact Blk.new _ 28 [.slice none 0 0, .slice none 0 0, .slice none 0 0, .int .i64 0]
                        have hbz : Below w6.heap.size w6 ZB := by rw [hZB]; exact bel_alloc (Below.refl _ _)
                        have hbbz := bel_trans (hbb6) hbz
                        have hg4b : Wb.heap.size ≤ g4 := by rw [hg4]; exact (hbb6).size
                        clear hg4 hZB
                        refine hK.out _ _ (hS _ hbbz) (fun hHeld => ?_)
                        clear hK K
                        (try simp only [Act.put, List.setIfInBounds_toArray, List.set_cons_zero, List.set_cons_succ])
                        refine wpAnyH_ready (rs := [10]) (by kernel_rfl) (by simp) ?_
                        refine AllReadyH.cons (o := _) rfl (fun K hK => ?_) AllReadyH.nil
                        have hzf := hza.frozen
                        have hzl := hza.lt
                        have z_0 := (hza.box).2 0 _ rfl; have z_1 := (hza.box).2 1 _ rfl; have z_2 := (hza.box).2 2 _ rfl; have z_3 := (hza.box).2 3 _ rfl
                        go_simp
                        clear hzf hzl z_0 z_1 z_2 z_3
                        have hz8 : Blk _ g4 28 [.slice none 0 0, .slice none 0 0, .slice none 0 0, .int .i64 0] := set4 hza (.slice none 0 0) (.slice none 0 0) (.slice none 0 0) (.int .i64 0)
                        have hbb8 := bel_set4 (hbbz) hg4b (.slice none 0 0) (.slice none 0 0) (.slice none 0 0) (.int .i64 0)
                        refine hK.out _ _ (hS _ hbb8) (fun hHeld => ?_)
                        clear hK K
                        (try simp only [Act.put, List.setIfInBounds_toArray, List.set_cons_zero, List.set_cons_succ])
                        (refine wpAnyH_tk 11 (some 22) (v := ?_) rfl rfl ?_ ?_; rotate_left; (focus (intro wq hSw; clear hSw; go_simp; all_goals (with_reducible rfl))); simp only [Act.put, List.setIfInBounds_toArray, List.set_cons_zero, List.set_cons_succ])
                        (refine wpAnyH_tk 12 (some 23) (v := ?_) rfl rfl ?_ ?_; rotate_left; (focus (intro wq hSw; clear hSw; go_simp; all_goals (with_reducible rfl))); simp only [Act.put, List.setIfInBounds_toArray, List.set_cons_zero, List.set_cons_succ])
                        refine wpAnyH_done (by kernel_rfl) ?_ _
                        go_wp2_with fail
                        go_meet
                        exact ⟨g4, rfl, rfl, rfl, hg4b, Lib.hid hz8, hbb8⟩
                      · skip
                        go_simp
                        obtain ⟨g4, hg4⟩ : ∃ g, g = w5.heap.size := ⟨_, rfl⟩
                        obtain ⟨ZB, hZB⟩ : ∃ Zq : World, Zq = w5.alloc (.cells #[.slice none 0 0, .slice none 0 0, .slice none 0 0, .int .i64 0] 28) := ⟨_, rfl⟩
                        rw [← hg4, ← hZB]
                        have hza : Blk ZB g4 28 [.slice none 0 0, .slice none 0 0, .slice none 0 0, .int .i64 0] := by rw [hZB, hg4]; exact Blk.new _ 28 [.slice none 0 0, .slice none 0 0, .slice none 0 0, .int .i64 0]
                        have hbz : Below w5.heap.size w5 ZB := by rw [hZB]; exact bel_alloc (Below.refl _ _)
                        have hbbz := bel_trans (hbb5) hbz
                        have hg4b : Wb.heap.size ≤ g4 := by rw [hg4]; exact (hbb5).size
                        clear hg4 hZB
                        have hu7 := hu5.up hbz
                        refine hK.out _ _ (hS _ hbbz) (fun hHeld => ?_)
                        clear hK K
                        (try simp only [Act.put, List.setIfInBounds_toArray, List.set_cons_zero, List.set_cons_succ])
                        refine wpAnyH_ready (rs := [4]) (by kernel_rfl) (by simp) ?_
                        refine AllReadyH.cons (o := _) rfl (fun K hK => ?_) AllReadyH.nil
                        go_simp
                        (go_at_call 22; refine (exec_Push_bad iA jA kA uA pn ic qn jc sn kc m5 uc p q s a.l c _ (HIb2.out.p.up (hbbz)) (HIb2.out.q.up (hbbz)) (HIb2.out.s.up (hbbz)) hu7 HNO.out).mono ?_; rintro e w6 ⟨rfl, hb6⟩)
                        have hbb6 := bel_trans (hbbz) hb6
                        have hz6 := hza.up hb6
                        have hgB : g4 < ZB.heap.size := hza.lt
                        refine hK.out _ _ (hS _ hbb6) (fun hHeld => ?_)
                        clear hK K
                        (try simp only [Act.put, List.setIfInBounds_toArray, List.set_cons_zero, List.set_cons_succ])
                        (refine wpAnyH_tk 5 (some 76) (v := ?_) rfl rfl ?_ ?_; rotate_left; (focus (intro wq hSw; clear hSw; go_simp; all_goals (with_reducible rfl))); simp only [Act.put, List.setIfInBounds_toArray, List.set_cons_zero, List.set_cons_succ])
                        (refine wpAnyH_tk 6 (some 82) (v := ?_) rfl rfl ?_ ?_; rotate_left; (focus (intro wq hSw; clear hSw; go_simp; all_goals (with_reducible rfl))); simp only [Act.put, List.setIfInBounds_toArray, List.set_cons_zero, List.set_cons_succ])
                        (refine wpAnyH_tk 7 (some 83) (v := ?_) rfl rfl ?_ ?_; rotate_left; (focus (intro wq hSw; clear hSw; go_simp; all_goals (with_reducible rfl))); simp only [Act.put, List.setIfInBounds_toArray, List.set_cons_zero, List.set_cons_succ])
                        (refine wpAnyH_tk 8 (some 84) (v := ?_) rfl rfl ?_ ?_; rotate_left; (focus (intro wq hSw; clear hSw; go_simp; all_goals (with_reducible rfl))); simp only [Act.put, List.setIfInBounds_toArray, List.set_cons_zero, List.set_cons_succ])
                        refine wpAnyH_ready (rs := [10]) (by kernel_rfl) (by simp) ?_
                        refine AllReadyH.cons (o := _) rfl (fun K hK => ?_) AllReadyH.nil
                        have hzf := hz6.frozen
                        have hzl := hz6.lt
                        have z_0 := (hz6.box).2 0 _ rfl; have z_1 := (hz6.box).2 1 _ rfl; have z_2 := (hz6.box).2 2 _ rfl; have z_3 := (hz6.box).2 3 _ rfl
                        go_simp
                        clear hzf hzl z_0 z_1 z_2 z_3
                        have hz8 : Blk _ g4 28 [.slice none 0 0, .slice none 0 0, .slice none 0 0, .int .i64 0] := set4 hz6 (.slice none 0 0) (.slice none 0 0) (.slice none 0 0) (.int .i64 0)
                        have hbb8 := bel_set4 (hbb6) hg4b (.slice none 0 0) (.slice none 0 0) (.slice none 0 0) (.int .i64 0)
                        refine hK.out _ _ (hS _ hbb8) (fun hHeld => ?_)
                        clear hK K
                        (try simp only [Act.put, List.setIfInBounds_toArray, List.set_cons_zero, List.set_cons_succ])
                        (refine wpAnyH_tk 11 (some 22) (v := ?_) rfl rfl ?_ ?_; rotate_left; (focus (intro wq hSw; clear hSw; go_simp; all_goals (with_reducible rfl))); simp only [Act.put, List.setIfInBounds_toArray, List.set_cons_zero, List.set_cons_succ])
                        (refine wpAnyH_tk 12 (some 23) (v := ?_) rfl rfl ?_ ?_; rotate_left; (focus (intro wq hSw; clear hSw; go_simp; all_goals (with_reducible rfl))); simp only [Act.put, List.setIfInBounds_toArray, List.set_cons_zero, List.set_cons_succ])
                        refine wpAnyH_done (by kernel_rfl) ?_ _
                        go_wp2_with fail
                        go_meet
                        exact ⟨g4, rfl, rfl, rfl, hg4b, Lib.hid hz8, hbb8⟩
                    · skip
                      go_simp
                      obtain ⟨g4, hg4⟩ : ∃ g, g = Z.heap.size := ⟨_, rfl⟩
                      obtain ⟨ZB, hZB⟩ : ∃ Zq : World, Zq = Z.alloc (.cells #[.slice none 0 0, .slice none 0 0, .slice none 0 0, .int .i64 0] 28) := ⟨_, rfl⟩
                      rw [← hg4, ← hZB]
                      have hza : Blk ZB g4 28 [.slice none 0 0, .slice none 0 0, .slice none 0 0, .int .i64 0] := by rw [hZB, hg4]; exact Blk.new _ 28 [.slice none 0 0, .slice none 0 0, .slice none 0 0, .int .i64 0]
                      have hbz : Below Z.heap.size Z ZB := by rw [hZB]; exact bel_alloc (Below.refl _ _)
                      have hbbz := bel_trans (hbd) hbz
                      have hg4b : Wb.heap.size ≤ g4 := by rw [hg4]; exact (hbd).size
                      clear hg4 hZB
                      refine hK.out _ _ (hS _ hbbz) (fun hHeld => ?_)
                      clear hK K
                      (try simp only [Act.put, List.setIfInBounds_toArray, List.set_cons_zero, List.set_cons_succ])
                      refine wpAnyH_ready (rs := [3]) (by kernel_rfl) (by simp) ?_
                      refine AllReadyH.cons (o := _) rfl (fun K hK => ?_) AllReadyH.nil
                      go_simp
                      (go_at_call 23; refine (ref0_CopyNumbers A5 m5 d5 a.l _ (HIb.out.up (hbbz)) (by omega)).mono ?_; rintro e w5 ⟨v5, rfl, hU, hb5⟩; obtain ⟨uA, uc, rfl, hu5⟩ := nmI hU HPL.out.2.2.2.1 (by omega); clear hU)
                      have hbb5 := bel_trans (hbbz) hb5
                      have hz5 := hza.up hb5
                      refine hK.out _ _ (hS _ hbb5) (fun hHeld => ?_)
                      clear hK K
                      (try simp only [Act.put, List.setIfInBounds_toArray, List.set_cons_zero, List.set_cons_succ])
                      refine wpAnyH_ready (rs := [4]) (by kernel_rfl) (by simp) ?_
                      refine AllReadyH.cons (o := _) rfl (fun K hK => ?_) AllReadyH.nil
                      go_simp
                      (go_at_call 22; refine (exec_Push_bad iA jA kA uA pn ic qn jc sn kc m5 uc p q s a.l c _ (HIb2.out.p.up (hbb5)) (HIb2.out.q.up (hbb5)) (HIb2.out.s.up (hbb5)) hu5 HNO.out).mono ?_; rintro e w6 ⟨rfl, hb6⟩)
                      have hbb6 := bel_trans (hbb5) hb6
                      have hz6 := hz5.up hb6
                      have hgB : g4 < w5.heap.size := hz5.lt
                      refine hK.out _ _ (hS _ hbb6) (fun hHeld => ?_)
                      clear hK K
                      (try simp only [Act.put, List.setIfInBounds_toArray, List.set_cons_zero, List.set_cons_succ])
                      (refine wpAnyH_tk 5 (some 76) (v := ?_) rfl rfl ?_ ?_; rotate_left; (focus (intro wq hSw; clear hSw; go_simp; all_goals (with_reducible rfl))); simp only [Act.put, List.setIfInBounds_toArray, List.set_cons_zero, List.set_cons_succ])
                      (refine wpAnyH_tk 6 (some 82) (v := ?_) rfl rfl ?_ ?_; rotate_left; (focus (intro wq hSw; clear hSw; go_simp; all_goals (with_reducible rfl))); simp only [Act.put, List.setIfInBounds_toArray, List.set_cons_zero, List.set_cons_succ])
                      (refine wpAnyH_tk 7 (some 83) (v := ?_) rfl rfl ?_ ?_; rotate_left; (focus (intro wq hSw; clear hSw; go_simp; all_goals (with_reducible rfl))); simp only [Act.put, List.setIfInBounds_toArray, List.set_cons_zero, List.set_cons_succ])
                      (refine wpAnyH_tk 8 (some 84) (v := ?_) rfl rfl ?_ ?_; rotate_left; (focus (intro wq hSw; clear hSw; go_simp; all_goals (with_reducible rfl))); simp only [Act.put, List.setIfInBounds_toArray, List.set_cons_zero, List.set_cons_succ])
                      refine wpAnyH_ready (rs := [10]) (by kernel_rfl) (by simp) ?_
                      refine AllReadyH.cons (o := _) rfl (fun K hK => ?_) AllReadyH.nil
                      have hzf := hz6.frozen
                      have hzl := hz6.lt
                      have z_0 := (hz6.box).2 0 _ rfl; have z_1 := (hz6.box).2 1 _ rfl; have z_2 := (hz6.box).2 2 _ rfl; have z_3 := (hz6.box).2 3 _ rfl
                      go_simp
                      clear hzf hzl z_0 z_1 z_2 z_3
                      have hz8 : Blk _ g4 28 [.slice none 0 0, .slice none 0 0, .slice none 0 0, .int .i64 0] := set4 hz6 (.slice none 0 0) (.slice none 0 0) (.slice none 0 0) (.int .i64 0)
                      have hbb8 := bel_set4 (hbb6) hg4b (.slice none 0 0) (.slice none 0 0) (.slice none 0 0) (.int .i64 0)
                      refine hK.out _ _ (hS _ hbb8) (fun hHeld => ?_)
                      clear hK K
                      (try simp only [Act.put, List.setIfInBounds_toArray, List.set_cons_zero, List.set_cons_succ])
                      (refine wpAnyH_tk 11 (some 22) (v := ?_) rfl rfl ?_ ?_; rotate_left; (focus (intro wq hSw; clear hSw; go_simp; all_goals (with_reducible rfl))); simp only [Act.put, List.setIfInBounds_toArray, List.set_cons_zero, List.set_cons_succ])
                      (refine wpAnyH_tk 12 (some 23) (v := ?_) rfl rfl ?_ ?_; rotate_left; (focus (intro wq hSw; clear hSw; go_simp; all_goals (with_reducible rfl))); simp only [Act.put, List.setIfInBounds_toArray, List.set_cons_zero, List.set_cons_succ])
                      refine wpAnyH_done (by kernel_rfl) ?_ _
                      go_wp2_with fail
                      go_meet
                      exact ⟨g4, rfl, rfl, rfl, hg4b, Lib.hid hz8, hbb8⟩
                  case rest =>
                  obtain ⟨g4, rfl, rfl, rfl, hg4b, HZ7, hbb7⟩ := hcut
                  obtain ⟨W7, hW7e⟩ : ∃ x, x = wc := ⟨_, rfl⟩
                  subst hW7e
                  clear hS hS1 hS2 HIb HIb2
                  have hbc7 := bel_trans hbcb hbb7
                  have HW7 := Lib.hid (HWb.out.up hbb7)
                  have HY7 := Lib.hid (HYb.out.up hbb7)
                  have zl := HZ7.out.lt
                  have z_0 := (HZ7.out.box).2 0 _ rfl; have z_1 := (HZ7.out.box).2 1 _ rfl; have z_2 := (HZ7.out.box).2 2 _ rfl; have z_3 := (HZ7.out.box).2 3 _ rfl
                  have hY7 := HY7.out
                  have yf := hY7.frozen
                  have yl := hY7.lt
                  have y_0 := (hY7.box).2 0 _ rfl; have y_1 := (hY7.box).2 1 _ rfl; have y_2 := (hY7.box).2 2 _ rfl; have y_3 := (hY7.box).2 3 _ rfl
                  clear hY7
                  go_upto_region 26 with fail
                  refine wp_world (fun W8 hW8 => ?_)
                  have HY8 : Hid (Blk W8 gy 28 [.slice none 0 0, .slice none 0 0, .slice none 0 0, .int .i64 0]) := Lib.hid (by rw [hW8]; exact set4 HY7.out _ _ _ _)
                  have HW8 := Lib.hid (show Blk W8 gw _ _ from by rw [hW8]; exact HW7.out.far4 hwy _ _ _ _)
                  have hbc8 : Below W2.heap.size W2 W8 := by rw [hW8]; exact bel_set4 hbc7 hgy2 _ _ _ _
                  have hzb8 : Wb.heap.size ≤ W8.heap.size := by rw [hW8]; have h1 := hbb7.size; simpa using h1
                  clear hW8 HY7 HW7 HZ7 hbb7 yl yf y_0 y_1 y_2 y_3 zl z_0 z_1 z_2 z_3
                  go_upto_region 28 with (go_at_call 17; refine (ref0_EqNumbers_same none 0 0 [] none 0 0 _ (IntsR.nil _ _) (IntsR.nil _ _)).mono ?_; rintro e W9x ⟨rfl, hb9⟩)
                  go_upto_region 51 with (go_at_call 19; refine (law0_Numbers (.slice none 0 0) [] Wb.heap.size _ (OwnI.nil _ _) (by simp) (Nat.le_trans hzb8 hb9.size)).mono ?_; rintro e WA ⟨rfl, hbA⟩)
                  have hbcA : Below W2.heap.size W2 WA := Below.trans (bel_trans hbc8 hb9) (hbA.mono hbcb.size)
                  have HWA := Lib.hid ((HW8.out.up hb9).bel hbA hwb)
                  have HYA := Lib.hid ((HY8.out.up hb9).bel hbA hyb)
                  obtain ⟨BY, hBY⟩ : ∃ b, b = Wb.heap.size := ⟨_, rfl⟩
                  have hBYA : BY ≤ WA.heap.size := by rw [hBY]; exact Nat.le_trans (Nat.le_trans hzb8 hb9.size) hbA.size
                  have hBY2 : W2.heap.size ≤ BY := by rw [hBY]; exact hbcb.size
                  have HYOA : Hid (ExO WA BY (.slice none 0 0) (.slice none 0 0) (.slice none 0 0) [] [] []) := Lib.hid (ExO.nil _ _)
                  have HWR9 : Hid (ReadE WA none 0 none 0 none 0 [] [] []) := Lib.hid (ReadE.nil _ _ _ _)
                  clear hBY
                  clear hb9 hbA HW8 HY8 HWb HYb hbc8 hbc7
                  obtain ⟨W9, hw9⟩ : ∃ x, x = WA := ⟨_, rfl⟩
                  subst hw9
                  have hbc9 := hbcA
                  have HW9 := HWA
                  have HY9 := HYA
                  have HYO9 := HYOA
                  have hBY9 := hBYA
                  clear hbcA HWA HYA HYOA hBYA
                  have hyr := ReadE.nil W9 none none none
                  have HYR9 := Lib.hid hyr
                  clear hyr
                  have yl := HY9.out.lt
                  have y_0 := (HY9.out.box).2 0 _ rfl; have y_1 := (HY9.out.box).2 1 _ rfl; have y_2 := (HY9.out.box).2 2 _ rfl; have y_3 := (HY9.out.box).2 3 _ rfl
                  have zl := HW9.out.lt
                  have z_0 := (HW9.out.box).2 0 _ rfl; have z_1 := (HW9.out.box).2 1 _ rfl; have z_2 := (HW9.out.box).2 2 _ rfl; have z_3 := (HW9.out.box).2 3 _ rfl
                  go_upto_region 53 with (first | (go_at_call 7; refine (law23_num _ _).mono ?_; rintro e w' ⟨rfl, rfl⟩) | (go_at_call 18; refine (ref0_EqExec iA jA kA pA qA sA pn ic qn jc sn kc pn pc qn qc sn sc p q s _ _ (HE2.out.up hbc10).ri.p (HE2.out.up hbc10).ri.q (HE2.out.up hbc10).ri.s (HE2.out.up hbc10).rx.p (HE2.out.up hbc10).rx.q (HE2.out.up hbc10).rx.s).mono ?_; rintro e w11 ⟨rfl, hb11⟩) | (go_at_call 18; refine (ref0_EqExec none none none none none none 0 0 0 0 0 0 0 0 0 0 0 0 [] [] [] 0 _ HYR9.out.p HYR9.out.q HYR9.out.s HWR9.out.p HWR9.out.q HWR9.out.s).mono ?_; rintro e w10 ⟨rfl, hb10⟩; have hbc10 := bel_trans hbc9 hb10; clear yl y_0 y_1 y_2 y_3 zl z_0 z_1 z_2 z_3; have il := (HE2.out.up hbc10).bi.lt; have i_0 := ((HE2.out.up hbc10).bi.box).2 0 _ rfl; have i_1 := ((HE2.out.up hbc10).bi.box).2 1 _ rfl; have i_2 := ((HE2.out.up hbc10).bi.box).2 2 _ rfl; have i_3 := ((HE2.out.up hbc10).bi.box).2 3 _ rfl; have xl := (HE2.out.up hbc10).bx.lt; have x_0 := ((HE2.out.up hbc10).bx.box).2 0 _ rfl; have x_1 := ((HE2.out.up hbc10).bx.box).2 1 _ rfl; have x_2 := ((HE2.out.up hbc10).bx.box).2 2 _ rfl; have x_3 := ((HE2.out.up hbc10).bx.box).2 3 _ rfl))
                  clear il i_0 i_1 i_2 i_3
                  clear xl x_0 x_1 x_2 x_3
                  have hb911 := bel_trans hb10 hb11
                  have hbc11 := bel_trans hbc9 hb911
                  have HY11 := Lib.hid (HY9.out.up hb911)
                  have HYO11 := Lib.hid (HYO9.out.up hb911)
                  have hBY11 := Nat.le_trans hBY9 hb911.size
                  have yl := HY11.out.lt
                  have y_0 := (HY11.out.box).2 0 _ rfl; have y_1 := (HY11.out.box).2 1 _ rfl; have y_2 := (HY11.out.box).2 2 _ rfl; have y_3 := (HY11.out.box).2 3 _ rfl
                  go_upto_region 54 with (go_at_call 24; refine (law0_Exec _ _ _ _ _ _ _ BY _ HYO11.out hBY11 (by simp) (by simp) (by simp)).mono ?_; rintro e w12 ⟨rfl, hb12⟩)
                  clear yl y_0 y_1 y_2 y_3
                  have hbc12 : Below W2.heap.size W2 w12 := Below.trans hbc11 (hb12.mono hBY2)
                  have hE12 := HE2.out.up hbc12
                  have il := hE12.bi.lt
                  have i_0 := (hE12.bi.box).2 0 _ rfl; have i_1 := (hE12.bi.box).2 1 _ rfl; have i_2 := (hE12.bi.box).2 2 _ rfl; have i_3 := (hE12.bi.box).2 3 _ rfl
                  have xl := hE12.bx.lt
                  have x_0 := (hE12.bx.box).2 0 _ rfl; have x_1 := (hE12.bx.box).2 1 _ rfl; have x_2 := (hE12.bx.box).2 2 _ rfl; have x_3 := (hE12.bx.box).2 3 _ rfl
                  clear hE12
                  go_upto_region 56 with (go_at_call 18; refine (ref0_EqExec iA jA kA pA qA sA pn ic qn jc sn kc pn pc qn qc sn sc p q s _ _ (HE2.out.up hbc12).ri.p (HE2.out.up hbc12).ri.q (HE2.out.up hbc12).ri.s (HE2.out.up hbc12).rx.p (HE2.out.up hbc12).rx.q (HE2.out.up hbc12).rx.s).mono ?_; rintro e w13 ⟨rfl, hb13⟩)
                  clear il i_0 i_1 i_2 i_3
                  clear xl x_0 x_1 x_2 x_3
                  have hbc13 := bel_trans hbc12 hb13
                  go_wp2_with fail
                  (first | (go_round; (case rel => exact ⟨k + 1, pA, pn, pc, qA, qn, qc, sA, sn, sc, p, q, s, c, by omega, by go_num, Lib.hid (HE2.out.up hbc13).bx, Lib.hid (HE2.out.up hbc13).rx, HEX, hp4', hq4', by omega, hsk, by omega, Lib.hid (HE2.out.up hbc13).bs, bel_trans hbw2 hbc13⟩); (case measure => (simp [intOf] <;> omega))) | (go_roundw; (case rel => exact ⟨k + 1, pA, pn, pc, qA, qn, qc, sA, sn, sc, p, q, s, c, by omega, by go_num, Lib.hid (HE2.out.up hbc13).bx, Lib.hid (HE2.out.up hbc13).rx, HEX, hp4', hq4', by omega, hsk, by omega, Lib.hid (HE2.out.up hbc13).bs, bel_trans hbw2 hbc13⟩); (case measure => (simp [intOf] <;> omega))) | (refine ⟨?_, by simp [intOf] <;> omega⟩; (repeat apply Exists.intro); refine ⟨?rel, ?fr⟩; (case fr => ((repeat' apply And.intro) <;> rfl)); (case rel => exact ⟨k + 1, pA, pn, pc, qA, qn, qc, sA, sn, sc, p, q, s, c, by omega, by go_num, Lib.hid (HE2.out.up hbc13).bx, Lib.hid (HE2.out.up hbc13).rx, HEX, hp4', hq4', by omega, hsk, by omega, Lib.hid (HE2.out.up hbc13).bs, bel_trans hbw2 hbc13⟩)))
              · skip
                as_aux_lemma =>
                  go_upto_region 23 with (go_at_call 20; refine (ref0_DigestsB A5 m5 d5 a.l true _ (HE2.out.up hbc3).hi HYD.out).mono ?_; rintro e w4 ⟨rfl, hb4⟩; have hbc4 := bel_trans hbc3 hb4; clear al a_0 a_1 a_2; have al := (HE2.out.up hbc4).ba.lt; have a_0 := ((HE2.out.up hbc4).ba.box).2 0 _ rfl; have a_1 := ((HE2.out.up hbc4).ba.box).2 1 _ rfl; have a_2 := ((HE2.out.up hbc4).ba.box).2 2 _ rfl)
                  have HW4 := Lib.hid (HW3.out.up hb4)
                  have HY4 := Lib.hid (HY3.out.up hb4)
                  have hz4 := hb4.size
                  have HEXN := Lib.hid (exB_push HEX.out HYD.out)
                  obtain ⟨n5, hn5⟩ : ∃ n, (s ++ freshL s a.l).length = n := ⟨_, rfl⟩
                  obtain ⟨n6, hn6⟩ : ∃ n, (freshL s a.l).length = n := ⟨_, rfl⟩
                  have hn6l : n6 ≤ 6000 := by rw [← hn6]; have h7 := fresh_len a.l s; have h8 := HPL.out.2.2.2.1; omega
                  have hn5l : n5 ≤ sn + 6000 := by rw [← hn5, List.length_append, hn6]; have h8 := HPL.out.2.2.1; omega
                  have HN5 := Lib.hid hn5
                  have HN6 := Lib.hid hn6
                  clear hn5 hn6
                  have hE4 := HE2.out.up hbc4
                  have xl := hE4.bx.lt
                  have x_0 := (hE4.bx.box).2 0 _ rfl; have x_1 := (hE4.bx.box).2 1 _ rfl; have x_2 := (hE4.bx.box).2 2 _ rfl; have x_3 := (hE4.bx.box).2 3 _ rfl
                  clear hE4
                  go_upto_region 24 with (go_at_call 21; refine (ref22_Push pA qA sA A5 pn pc qn qc sn sc m5 d5 p q s a.l c _ (HE2.out.up hbc4).rx.p (HE2.out.up hbc4).rx.q (HE2.out.up hbc4).rx.s (HE2.out.up hbc4).hi (by omega) (by omega) (by omega) (by omega)).mono ?_; rintro e wa ⟨vp, va, vs, vf, rfl, hPO, hba⟩; obtain ⟨Ap, cp, rfl, -⟩ := nmP hPO.e.p HPL.out.1 (by omega); obtain ⟨Aa, ca, rfl, -⟩ := nmA hPO.e.a HPL.out.2.1 (by omega); obtain ⟨As, cs, rfl, -⟩ := nmI hPO.e.s HN5.out (by omega); obtain ⟨Af, cf, rfl, hrf⟩ := nmI hPO.f HN6.out (by omega); have HPA := Lib.hid hPO; have HRF := Lib.hid hrf; clear hPO hrf; have hza := HW4.out.up hba; have zf := hza.frozen; have zl := hza.lt; have z_0 := (hza.box).2 0 _ rfl; have z_1 := (hza.box).2 1 _ rfl; have z_2 := (hza.box).2 2 _ rfl; have z_3 := (hza.box).2 3 _ rfl; clear hza)
                  clear xl x_0 x_1 x_2 x_3
                  clear zl zf z_0 z_1 z_2 z_3
                  refine wp_world (fun Wb hWb => ?_)
                  have hb4a := hba
                  have HWb : Hid (Blk Wb gw 28 [.slice Ap pn cp, .slice Aa qn ca, .slice As n5 cs, .int .i64 c]) := Lib.hid (by rw [hWb]; exact set4 (HW4.out.up hba) _ _ _ _)
                  have HYb := Lib.hid (show Blk Wb gy _ _ from by rw [hWb]; exact (HY4.out.up hba).far4 (Ne.symm hwy) _ _ _ _)
                  have hbcb : Below W2.heap.size W2 Wb := by rw [hWb]; exact bel_set4 (bel_trans hbc4 hba) hgw2 _ _ _ _
                  have hyb : gy < Wb.heap.size := HYb.out.lt
                  have hwb : gw < Wb.heap.size := HWb.out.lt
                  have HWR0 : Hid (ReadE Wb Ap pn Aa qn As n5 p q (s ++ freshL s a.l)) := Lib.hid (by rw [hWb]; exact (HPA.out.e.rd HPL.out.1 HPL.out.2.1 HN5.out (by omega) (by omega) (by omega)).far4 (HPA.out.e.far (by omega)) _ _ _ _)
                  have HWF : Hid (FarE Ap pn Aa qn As n5 gy) := Lib.hid (HPA.out.e.far (by omega))
                  have HLR0 : Hid (IntsR Wb Af n6 (freshL s a.l)) := Lib.hid (by rw [hWb]; exact HRF.out.gr (HPA.out.f.farN (by omega)) (grown_set4 (World.grownBy.refl _ _) _ _ _ _))
                  have HLF : Hid (FarN Af n6 gy) := Lib.hid (HPA.out.f.farN (by omega))
                  clear HPA HRF
                  clear hWb hba hb4a HW4 HY4
                  have HIb := Lib.hid (HE2.out.up hbcb).hi
                  have HIb2 := Lib.hid (HE2.out.up hbcb).ri
                  obtain ⟨S, hSd⟩ : ∃ S : World → Prop, S = fun Q => Q.rangeAt gi 0 [.slice iA pn ic, .slice jA qn jc, .slice kA sn kc, .int .i64 c] ∧ Q.cell? ⟨ga, 1, none⟩ = some (.slice A5 m5 d5) := ⟨_, rfl⟩
                  have hS1 : ∀ Q, S Q → Q.rangeAt gi 0 [.slice iA pn ic, .slice jA qn jc, .slice kA sn kc, .int .i64 c] := fun Q h => by rw [hSd] at h; exact h.1
                  have hS2 : ∀ Q, S Q → Q.cell? ⟨ga, 1, none⟩ = some (.slice A5 m5 d5) := fun Q h => by rw [hSd] at h; exact h.2
                  have hS : ∀ Q, Below Wb.heap.size Wb Q → S Q := fun Q hQ => by rw [hSd]; exact ⟨((HE2.out.up hbcb).bi.up hQ).rng, ((HE2.out.up hbcb).ba.up hQ).box.2 1 _ rfl⟩
                  clear hSd al a_0 a_1 a_2
                  go_cut [21, 22, 23] from 76 to 84 (fun s21 s22 s23 wx => ∃ (g : Nat) (Bp Ba Bs Bf : Option Addr) (dp da ds df : Nat), s21 = .pointer (some ⟨g, 0, none⟩) ∧ s22 = .slice Bf n6 df ∧ s23 = .int .i64 0 ∧ Wb.heap.size ≤ g ∧ Hid (Blk wx g 28 [.slice Bp pn dp, .slice Ba qn da, .slice Bs n5 ds, .int .i64 c]) ∧ Hid (PushO wx Wb.heap.size (.slice Bp pn dp) (.slice Ba qn da) (.slice Bs n5 ds) (.slice Bf n6 df) p q (s ++ freshL s a.l) (freshL s a.l)) ∧ Below Wb.heap.size Wb wx)
                  case first =>
                    refine wp_region_held_drew (S := S) (by kernel_rfl) (hS _ (bel_drew (Below.refl _ _))) (fun hHeld => ?_)
                    have hbd : Below Wb.heap.size Wb Wb.drew := bel_drew (Below.refl _ _)
                    generalize Wb.drew = Z at *
                    refine wpAnyH_takeD (i := 0) (d := (some 77)) (v := .agg ([.slice iA pn ic, .slice jA qn jc, .slice kA sn kc, .int .i64 c]).toArray) rfl rfl (by kernel_rfl) (by kernel_rfl) (by kernel_rfl) (fun _ _ _ h => h) (yieldsIf_load_mid (by rfl) 28 _ rfl gi 0 (by simp [Act.eval, Act.put]) ([.slice iA pn ic, .slice jA qn jc, .slice kA sn kc, .int .i64 c]) _ (hS1) Tryz.underlying28 (by rfl) (by kernel_rfl)) (by assumption) ?_
                    simp only [Act.put, List.setIfInBounds_toArray, List.set_cons_zero, List.set_cons_succ]
                    (refine wpAnyH_tk 1 (some 78) (v := ?_) rfl rfl ?_ ?_; rotate_left; (focus (intro wq hSw; clear hSw; go_simp; all_goals (with_reducible rfl))); simp only [Act.put, List.setIfInBounds_toArray, List.set_cons_zero, List.set_cons_succ])
                    (refine wpAnyH_tk 2 (some 79) (v := ?_) rfl rfl ?_ ?_; rotate_left; (focus (intro wq hSw; have q1 := hS2 wq hSw; clear hSw; go_simp; all_goals (with_reducible rfl))); simp only [Act.put, List.setIfInBounds_toArray, List.set_cons_zero, List.set_cons_succ])
                    refine wpAnyH_ready (rs := [3, 9]) (by kernel_rfl) (by simp) ?_
                    refine AllReadyH.cons (o := _) rfl (fun K hK => ?_) (AllReadyH.cons (o := _) rfl (fun K hK => ?_) AllReadyH.nil)
                    · skip
                      go_simp
                      (go_at_call 23; refine (ref0_CopyNumbers A5 m5 d5 a.l _ (HIb.out.up (hbd)) (by omega)).mono ?_; rintro e w5 ⟨v5, rfl, hU, hb5⟩; obtain ⟨uA, uc, rfl, hu5⟩ := nmI hU HPL.out.2.2.2.1 (by omega); clear hU)
                      have hbb5 := bel_trans (hbd) hb5
                      refine hK.out _ _ (hS _ hbb5) (fun hHeld => ?_)
                      clear hK K
                      (try simp only [Act.put, List.setIfInBounds_toArray, List.set_cons_zero, List.set_cons_succ])
                      refine wpAnyH_ready (rs := [4, 9]) (by kernel_rfl) (by simp) ?_
                      refine AllReadyH.cons (o := _) rfl (fun K hK => ?_) (AllReadyH.cons (o := _) rfl (fun K hK => ?_) AllReadyH.nil)
                      · skip
                        go_simp
                        (go_at_call 22; refine (exec_Push_ok iA jA kA uA pn ic qn jc sn kc m5 uc p q s a.l c _ (HIb2.out.p.up (hbb5)) (HIb2.out.q.up (hbb5)) (HIb2.out.s.up (hbb5)) hu5 HEX.out HYD.out (by omega) (by omega)).mono ?_; rintro e w6 ⟨vp, va, vs, vf, rfl, hPO, hb6⟩; obtain ⟨Bp, dp, rfl, -⟩ := nmP hPO.e.p HPL.out.1 (by omega); obtain ⟨Ba, da, rfl, -⟩ := nmA hPO.e.a HPL.out.2.1 (by omega); obtain ⟨Bs, ds, rfl, -⟩ := nmI hPO.e.s HN5.out (by omega); obtain ⟨Bf, df, rfl, -⟩ := nmI hPO.f HN6.out (by omega))
                        have hbb6 := bel_trans (hbb5) hb6
                        refine hK.out _ _ (hS _ hbb6) (fun hHeld => ?_)
                        clear hK K
                        (try simp only [Act.put, List.setIfInBounds_toArray, List.set_cons_zero, List.set_cons_succ])
                        (refine wpAnyH_tk 5 (some 76) (v := ?_) rfl rfl ?_ ?_; rotate_left; (focus (intro wq hSw; clear hSw; go_simp; all_goals (with_reducible rfl))); simp only [Act.put, List.setIfInBounds_toArray, List.set_cons_zero, List.set_cons_succ])
                        (refine wpAnyH_tk 6 (some 82) (v := ?_) rfl rfl ?_ ?_; rotate_left; (focus (intro wq hSw; clear hSw; go_simp; all_goals (with_reducible rfl))); simp only [Act.put, List.setIfInBounds_toArray, List.set_cons_zero, List.set_cons_succ])
                        (refine wpAnyH_tk 7 (some 83) (v := ?_) rfl rfl ?_ ?_; rotate_left; (focus (intro wq hSw; clear hSw; go_simp; all_goals (with_reducible rfl))); simp only [Act.put, List.setIfInBounds_toArray, List.set_cons_zero, List.set_cons_succ])
                        (refine wpAnyH_tk 8 (some 84) (v := ?_) rfl rfl ?_ ?_; rotate_left; (focus (intro wq hSw; clear hSw; go_simp; all_goals (with_reducible rfl))); simp only [Act.put, List.setIfInBounds_toArray, List.set_cons_zero, List.set_cons_succ])
                        refine wpAnyH_ready (rs := [9]) (by kernel_rfl) (by simp) ?_
                        refine AllReadyH.cons (o := _) rfl (fun K hK => ?_) AllReadyH.nil
                        go_simp
                        obtain ⟨g4, hg4⟩ : ∃ g, g = w6.heap.size := ⟨_, rfl⟩
                        obtain ⟨ZB, hZB⟩ : ∃ Zq : World, Zq = w6.alloc (.cells #[.slice none 0 0, .slice none 0 0, .slice none 0 0, .int .i64 0] 28) := ⟨_, rfl⟩
                        rw [← hg4, ← hZB]
                        have hza : Blk ZB g4 28 [.slice none 0 0, .slice none 0 0, .slice none 0 0, .int .i64 0] := by rw [hZB, hg4]; exact Blk.new _ 28 [.slice none 0 0, .slice none 0 0, .slice none 0 0, .int .i64 0]
                        have hbz : Below w6.heap.size w6 ZB := by rw [hZB]; exact bel_alloc (Below.refl _ _)
                        have hbbz := bel_trans (hbb6) hbz
                        have hg4b : Wb.heap.size ≤ g4 := by rw [hg4]; exact (hbb6).size
                        have hPO7 := hPO.up hbz
                        have hg4c : w6.heap.size ≤ g4 := by rw [hg4]; exact Nat.le_refl _
                        clear hg4 hZB
                        refine hK.out _ _ (hS _ hbbz) (fun hHeld => ?_)
                        clear hK K
                        (try simp only [Act.put, List.setIfInBounds_toArray, List.set_cons_zero, List.set_cons_succ])
                        refine wpAnyH_ready (rs := [10]) (by kernel_rfl) (by simp) ?_
                        refine AllReadyH.cons (o := _) rfl (fun K hK => ?_) AllReadyH.nil
                        have hzf := hza.frozen
                        have hzl := hza.lt
                        have z_0 := (hza.box).2 0 _ rfl; have z_1 := (hza.box).2 1 _ rfl; have z_2 := (hza.box).2 2 _ rfl; have z_3 := (hza.box).2 3 _ rfl
                        go_simp
                        clear hzf hzl z_0 z_1 z_2 z_3
                        have hz8 : Blk _ g4 28 [.slice Bp pn dp, .slice Ba qn da, .slice Bs n5 ds, .int .i64 c] := set4 hza (.slice Bp pn dp) (.slice Ba qn da) (.slice Bs n5 ds) (.int .i64 c)
                        have hbb8 := bel_set4 (hbbz) hg4b (.slice Bp pn dp) (.slice Ba qn da) (.slice Bs n5 ds) (.int .i64 c)
                        refine hK.out _ _ (hS _ hbb8) (fun hHeld => ?_)
                        clear hK K
                        (try simp only [Act.put, List.setIfInBounds_toArray, List.set_cons_zero, List.set_cons_succ])
                        (refine wpAnyH_tk 11 (some 22) (v := ?_) rfl rfl ?_ ?_; rotate_left; (focus (intro wq hSw; clear hSw; go_simp; all_goals (with_reducible rfl))); simp only [Act.put, List.setIfInBounds_toArray, List.set_cons_zero, List.set_cons_succ])
                        (refine wpAnyH_tk 12 (some 23) (v := ?_) rfl rfl ?_ ?_; rotate_left; (focus (intro wq hSw; clear hSw; go_simp; all_goals (with_reducible rfl))); simp only [Act.put, List.setIfInBounds_toArray, List.set_cons_zero, List.set_cons_succ])
                        refine wpAnyH_done (by kernel_rfl) ?_ _
                        go_wp2_with fail
                        go_meet
                        exact ⟨g4, Bp, Ba, Bs, Bf, dp, da, ds, df, rfl, rfl, rfl, hg4b, Lib.hid hz8, Lib.hid ((hPO.up (bel_set4 hbz hg4c (.slice Bp pn dp) (.slice Ba qn da) (.slice Bs n5 ds) (.int .i64 c))).mono ((hbb5).size)), hbb8⟩
                      · skip
                        go_simp
                        obtain ⟨g4, hg4⟩ : ∃ g, g = w5.heap.size := ⟨_, rfl⟩
                        obtain ⟨ZB, hZB⟩ : ∃ Zq : World, Zq = w5.alloc (.cells #[.slice none 0 0, .slice none 0 0, .slice none 0 0, .int .i64 0] 28) := ⟨_, rfl⟩
                        rw [← hg4, ← hZB]
                        have hza : Blk ZB g4 28 [.slice none 0 0, .slice none 0 0, .slice none 0 0, .int .i64 0] := by rw [hZB, hg4]; exact Blk.new _ 28 [.slice none 0 0, .slice none 0 0, .slice none 0 0, .int .i64 0]
                        have hbz : Below w5.heap.size w5 ZB := by rw [hZB]; exact bel_alloc (Below.refl _ _)
                        have hbbz := bel_trans (hbb5) hbz
                        have hg4b : Wb.heap.size ≤ g4 := by rw [hg4]; exact (hbb5).size
                        clear hg4 hZB
                        have hu7 := hu5.up hbz
                        refine hK.out _ _ (hS _ hbbz) (fun hHeld => ?_)
                        clear hK K
                        (try simp only [Act.put, List.setIfInBounds_toArray, List.set_cons_zero, List.set_cons_succ])
                        refine wpAnyH_ready (rs := [4]) (by kernel_rfl) (by simp) ?_
                        refine AllReadyH.cons (o := _) rfl (fun K hK => ?_) AllReadyH.nil
                        go_simp
                        (go_at_call 22; refine (exec_Push_ok iA jA kA uA pn ic qn jc sn kc m5 uc p q s a.l c _ (HIb2.out.p.up (hbbz)) (HIb2.out.q.up (hbbz)) (HIb2.out.s.up (hbbz)) hu7 HEX.out HYD.out (by omega) (by omega)).mono ?_; rintro e w6 ⟨vp, va, vs, vf, rfl, hPO, hb6⟩; obtain ⟨Bp, dp, rfl, -⟩ := nmP hPO.e.p HPL.out.1 (by omega); obtain ⟨Ba, da, rfl, -⟩ := nmA hPO.e.a HPL.out.2.1 (by omega); obtain ⟨Bs, ds, rfl, -⟩ := nmI hPO.e.s HN5.out (by omega); obtain ⟨Bf, df, rfl, -⟩ := nmI hPO.f HN6.out (by omega))
                        have hbb6 := bel_trans (hbbz) hb6
                        have hz6 := hza.up hb6
                        have hgB : g4 < ZB.heap.size := hza.lt
                        refine hK.out _ _ (hS _ hbb6) (fun hHeld => ?_)
                        clear hK K
                        (try simp only [Act.put, List.setIfInBounds_toArray, List.set_cons_zero, List.set_cons_succ])
                        (refine wpAnyH_tk 5 (some 76) (v := ?_) rfl rfl ?_ ?_; rotate_left; (focus (intro wq hSw; clear hSw; go_simp; all_goals (with_reducible rfl))); simp only [Act.put, List.setIfInBounds_toArray, List.set_cons_zero, List.set_cons_succ])
                        (refine wpAnyH_tk 6 (some 82) (v := ?_) rfl rfl ?_ ?_; rotate_left; (focus (intro wq hSw; clear hSw; go_simp; all_goals (with_reducible rfl))); simp only [Act.put, List.setIfInBounds_toArray, List.set_cons_zero, List.set_cons_succ])
                        (refine wpAnyH_tk 7 (some 83) (v := ?_) rfl rfl ?_ ?_; rotate_left; (focus (intro wq hSw; clear hSw; go_simp; all_goals (with_reducible rfl))); simp only [Act.put, List.setIfInBounds_toArray, List.set_cons_zero, List.set_cons_succ])
                        (refine wpAnyH_tk 8 (some 84) (v := ?_) rfl rfl ?_ ?_; rotate_left; (focus (intro wq hSw; clear hSw; go_simp; all_goals (with_reducible rfl))); simp only [Act.put, List.setIfInBounds_toArray, List.set_cons_zero, List.set_cons_succ])
                        refine wpAnyH_ready (rs := [10]) (by kernel_rfl) (by simp) ?_
                        refine AllReadyH.cons (o := _) rfl (fun K hK => ?_) AllReadyH.nil
                        have hzf := hz6.frozen
                        have hzl := hz6.lt
                        have z_0 := (hz6.box).2 0 _ rfl; have z_1 := (hz6.box).2 1 _ rfl; have z_2 := (hz6.box).2 2 _ rfl; have z_3 := (hz6.box).2 3 _ rfl
                        go_simp
                        clear hzf hzl z_0 z_1 z_2 z_3
                        have hz8 : Blk _ g4 28 [.slice Bp pn dp, .slice Ba qn da, .slice Bs n5 ds, .int .i64 c] := set4 hz6 (.slice Bp pn dp) (.slice Ba qn da) (.slice Bs n5 ds) (.int .i64 c)
                        have hbb8 := bel_set4 (hbb6) hg4b (.slice Bp pn dp) (.slice Ba qn da) (.slice Bs n5 ds) (.int .i64 c)
                        refine hK.out _ _ (hS _ hbb8) (fun hHeld => ?_)
                        clear hK K
                        (try simp only [Act.put, List.setIfInBounds_toArray, List.set_cons_zero, List.set_cons_succ])
                        (refine wpAnyH_tk 11 (some 22) (v := ?_) rfl rfl ?_ ?_; rotate_left; (focus (intro wq hSw; clear hSw; go_simp; all_goals (with_reducible rfl))); simp only [Act.put, List.setIfInBounds_toArray, List.set_cons_zero, List.set_cons_succ])
                        (refine wpAnyH_tk 12 (some 23) (v := ?_) rfl rfl ?_ ?_; rotate_left; (focus (intro wq hSw; clear hSw; go_simp; all_goals (with_reducible rfl))); simp only [Act.put, List.setIfInBounds_toArray, List.set_cons_zero, List.set_cons_succ])
                        refine wpAnyH_done (by kernel_rfl) ?_ _
                        go_wp2_with fail
                        go_meet
                        exact ⟨g4, Bp, Ba, Bs, Bf, dp, da, ds, df, rfl, rfl, rfl, hg4b, Lib.hid hz8, Lib.hid ((hPO.set4 hgB (.slice Bp pn dp) (.slice Ba qn da) (.slice Bs n5 ds) (.int .i64 c)).mono ((hbbz).size)), hbb8⟩
                    · skip
                      go_simp
                      obtain ⟨g4, hg4⟩ : ∃ g, g = Z.heap.size := ⟨_, rfl⟩
                      obtain ⟨ZB, hZB⟩ : ∃ Zq : World, Zq = Z.alloc (.cells #[.slice none 0 0, .slice none 0 0, .slice none 0 0, .int .i64 0] 28) := ⟨_, rfl⟩
                      rw [← hg4, ← hZB]
                      have hza : Blk ZB g4 28 [.slice none 0 0, .slice none 0 0, .slice none 0 0, .int .i64 0] := by rw [hZB, hg4]; exact Blk.new _ 28 [.slice none 0 0, .slice none 0 0, .slice none 0 0, .int .i64 0]
                      have hbz : Below Z.heap.size Z ZB := by rw [hZB]; exact bel_alloc (Below.refl _ _)
                      have hbbz := bel_trans (hbd) hbz
                      have hg4b : Wb.heap.size ≤ g4 := by rw [hg4]; exact (hbd).size
                      clear hg4 hZB
                      refine hK.out _ _ (hS _ hbbz) (fun hHeld => ?_)
                      clear hK K
                      (try simp only [Act.put, List.setIfInBounds_toArray, List.set_cons_zero, List.set_cons_succ])
                      refine wpAnyH_ready (rs := [3]) (by kernel_rfl) (by simp) ?_
                      refine AllReadyH.cons (o := _) rfl (fun K hK => ?_) AllReadyH.nil
                      go_simp
                      (go_at_call 23; refine (ref0_CopyNumbers A5 m5 d5 a.l _ (HIb.out.up (hbbz)) (by omega)).mono ?_; rintro e w5 ⟨v5, rfl, hU, hb5⟩; obtain ⟨uA, uc, rfl, hu5⟩ := nmI hU HPL.out.2.2.2.1 (by omega); clear hU)
                      have hbb5 := bel_trans (hbbz) hb5
                      have hz5 := hza.up hb5
                      refine hK.out _ _ (hS _ hbb5) (fun hHeld => ?_)
                      clear hK K
                      (try simp only [Act.put, List.setIfInBounds_toArray, List.set_cons_zero, List.set_cons_succ])
                      refine wpAnyH_ready (rs := [4]) (by kernel_rfl) (by simp) ?_
                      refine AllReadyH.cons (o := _) rfl (fun K hK => ?_) AllReadyH.nil
                      go_simp
                      (go_at_call 22; refine (exec_Push_ok iA jA kA uA pn ic qn jc sn kc m5 uc p q s a.l c _ (HIb2.out.p.up (hbb5)) (HIb2.out.q.up (hbb5)) (HIb2.out.s.up (hbb5)) hu5 HEX.out HYD.out (by omega) (by omega)).mono ?_; rintro e w6 ⟨vp, va, vs, vf, rfl, hPO, hb6⟩; obtain ⟨Bp, dp, rfl, -⟩ := nmP hPO.e.p HPL.out.1 (by omega); obtain ⟨Ba, da, rfl, -⟩ := nmA hPO.e.a HPL.out.2.1 (by omega); obtain ⟨Bs, ds, rfl, -⟩ := nmI hPO.e.s HN5.out (by omega); obtain ⟨Bf, df, rfl, -⟩ := nmI hPO.f HN6.out (by omega))
                      have hbb6 := bel_trans (hbb5) hb6
                      have hz6 := hz5.up hb6
                      have hgB : g4 < w5.heap.size := hz5.lt
                      refine hK.out _ _ (hS _ hbb6) (fun hHeld => ?_)
                      clear hK K
                      (try simp only [Act.put, List.setIfInBounds_toArray, List.set_cons_zero, List.set_cons_succ])
                      (refine wpAnyH_tk 5 (some 76) (v := ?_) rfl rfl ?_ ?_; rotate_left; (focus (intro wq hSw; clear hSw; go_simp; all_goals (with_reducible rfl))); simp only [Act.put, List.setIfInBounds_toArray, List.set_cons_zero, List.set_cons_succ])
                      (refine wpAnyH_tk 6 (some 82) (v := ?_) rfl rfl ?_ ?_; rotate_left; (focus (intro wq hSw; clear hSw; go_simp; all_goals (with_reducible rfl))); simp only [Act.put, List.setIfInBounds_toArray, List.set_cons_zero, List.set_cons_succ])
                      (refine wpAnyH_tk 7 (some 83) (v := ?_) rfl rfl ?_ ?_; rotate_left; (focus (intro wq hSw; clear hSw; go_simp; all_goals (with_reducible rfl))); simp only [Act.put, List.setIfInBounds_toArray, List.set_cons_zero, List.set_cons_succ])
                      (refine wpAnyH_tk 8 (some 84) (v := ?_) rfl rfl ?_ ?_; rotate_left; (focus (intro wq hSw; clear hSw; go_simp; all_goals (with_reducible rfl))); simp only [Act.put, List.setIfInBounds_toArray, List.set_cons_zero, List.set_cons_succ])
                      refine wpAnyH_ready (rs := [10]) (by kernel_rfl) (by simp) ?_
                      refine AllReadyH.cons (o := _) rfl (fun K hK => ?_) AllReadyH.nil
                      have hzf := hz6.frozen
                      have hzl := hz6.lt
                      have z_0 := (hz6.box).2 0 _ rfl; have z_1 := (hz6.box).2 1 _ rfl; have z_2 := (hz6.box).2 2 _ rfl; have z_3 := (hz6.box).2 3 _ rfl
                      go_simp
                      clear hzf hzl z_0 z_1 z_2 z_3
                      have hz8 : Blk _ g4 28 [.slice Bp pn dp, .slice Ba qn da, .slice Bs n5 ds, .int .i64 c] := set4 hz6 (.slice Bp pn dp) (.slice Ba qn da) (.slice Bs n5 ds) (.int .i64 c)
                      have hbb8 := bel_set4 (hbb6) hg4b (.slice Bp pn dp) (.slice Ba qn da) (.slice Bs n5 ds) (.int .i64 c)
                      refine hK.out _ _ (hS _ hbb8) (fun hHeld => ?_)
                      clear hK K
                      (try simp only [Act.put, List.setIfInBounds_toArray, List.set_cons_zero, List.set_cons_succ])
                      (refine wpAnyH_tk 11 (some 22) (v := ?_) rfl rfl ?_ ?_; rotate_left; (focus (intro wq hSw; clear hSw; go_simp; all_goals (with_reducible rfl))); simp only [Act.put, List.setIfInBounds_toArray, List.set_cons_zero, List.set_cons_succ])
                      (refine wpAnyH_tk 12 (some 23) (v := ?_) rfl rfl ?_ ?_; rotate_left; (focus (intro wq hSw; clear hSw; go_simp; all_goals (with_reducible rfl))); simp only [Act.put, List.setIfInBounds_toArray, List.set_cons_zero, List.set_cons_succ])
                      refine wpAnyH_done (by kernel_rfl) ?_ _
                      go_wp2_with fail
                      go_meet
                      exact ⟨g4, Bp, Ba, Bs, Bf, dp, da, ds, df, rfl, rfl, rfl, hg4b, Lib.hid hz8, Lib.hid ((hPO.set4 hgB (.slice Bp pn dp) (.slice Ba qn da) (.slice Bs n5 ds) (.int .i64 c)).mono ((hbb5).size)), hbb8⟩
                  case rest =>
                  obtain ⟨g4, Bp, Ba, Bs, Bf, dp, da, ds, df, rfl, rfl, rfl, hg4b, HZ7, HPO7, hbb7⟩ := hcut
                  obtain ⟨W7, hW7e⟩ : ∃ x, x = wc := ⟨_, rfl⟩
                  subst hW7e
                  clear hS hS1 hS2 HIb HIb2
                  have hbc7 := bel_trans hbcb hbb7
                  have HW7 := Lib.hid (HWb.out.up hbb7)
                  have HY7 := Lib.hid (HYb.out.up hbb7)
                  have zl := HZ7.out.lt
                  have z_0 := (HZ7.out.box).2 0 _ rfl; have z_1 := (HZ7.out.box).2 1 _ rfl; have z_2 := (HZ7.out.box).2 2 _ rfl; have z_3 := (HZ7.out.box).2 3 _ rfl
                  have hY7 := HY7.out
                  have yf := hY7.frozen
                  have yl := hY7.lt
                  have y_0 := (hY7.box).2 0 _ rfl; have y_1 := (hY7.box).2 1 _ rfl; have y_2 := (hY7.box).2 2 _ rfl; have y_3 := (hY7.box).2 3 _ rfl
                  clear hY7
                  go_upto_region 26 with fail
                  refine wp_world (fun W8 hW8 => ?_)
                  have HY8 : Hid (Blk W8 gy 28 [.slice Bp pn dp, .slice Ba qn da, .slice Bs n5 ds, .int .i64 c]) := Lib.hid (by rw [hW8]; exact set4 HY7.out _ _ _ _)
                  have HW8 := Lib.hid (show Blk W8 gw _ _ from by rw [hW8]; exact HW7.out.far4 hwy _ _ _ _)
                  have hbc8 : Below W2.heap.size W2 W8 := by rw [hW8]; exact bel_set4 hbc7 hgy2 _ _ _ _
                  have hzb8 : Wb.heap.size ≤ W8.heap.size := by rw [hW8]; have h1 := hbb7.size; simpa using h1
                  have HPO8 : Hid (PushO W8 Wb.heap.size (.slice Bp pn dp) (.slice Ba qn da) (.slice Bs n5 ds) (.slice Bf n6 df) p q (s ++ freshL s a.l) (freshL s a.l)) := Lib.hid (by rw [hW8]; exact HPO7.out.set4 hyb _ _ _ _)
                  have hgr8 : Wb.grownBy W8 (some gy) := by rw [hW8]; exact grown_set4 (gr_bel (World.grownBy.refl _ _) hbb7 (Nat.le_refl _)) _ _ _ _
                  have HLR8 := Lib.hid (HLR0.out.gr HLF.out hgr8)
                  have hk8 : IntsR W8 Bf n6 (freshL s a.l) := by obtain ⟨A', c', e', h'⟩ := nmI HPO8.out.f HN6.out (by omega); injection e' with e1 e2 e3; subst e1; exact h'
                  have HK8 := Lib.hid hk8
                  clear hk8 HPO7
                  clear hW8 HY7 HW7 HZ7 hbb7 yl yf y_0 y_1 y_2 y_3 zl z_0 z_1 z_2 z_3
                  go_upto_region 28 with (go_at_call 17; refine (ref0_EqNumbers_same Bf n6 df (freshL s a.l) Af n6 cf _ HK8.out HLR8.out).mono ?_; rintro e W9x ⟨rfl, hb9⟩)
                  go_upto_region 51 with (go_at_call 19; refine (law0_NumbersG (.slice Bf n6 df) (freshL s a.l) Wb.heap.size _ (HPO8.out.f.up hb9) (by rw [HN6.out]; omega) (Nat.le_trans hzb8 hb9.size)).mono ?_; rintro e WA ⟨rfl, hgA, hbA⟩)
                  have hbcA : Below W2.heap.size W2 WA := Below.trans (bel_trans hbc8 hb9) (hbA.mono hbcb.size)
                  have HWA := Lib.hid ((HW8.out.up hb9).bel hbA hwb)
                  have HYA := Lib.hid ((HY8.out.up hb9).bel hbA hyb)
                  obtain ⟨BY, hBY⟩ : ∃ b, b = Wb.heap.size := ⟨_, rfl⟩
                  have hBYA : BY ≤ WA.heap.size := by rw [hBY]; exact Nat.le_trans (Nat.le_trans hzb8 hb9.size) hbA.size
                  have hBY2 : W2.heap.size ≤ BY := by rw [hBY]; exact hbcb.size
                  have hgwB : gw < BY := by omega
                  have hgrB : Wb.heap.size ≤ BY := by omega
                  have HYOA : Hid (ExO WA BY (.slice Bp pn dp) (.slice Ba qn da) (.slice Bs n5 ds) p q (s ++ freshL s a.l)) := Lib.hid (by rw [hBY]; exact (HPO8.out.up hb9).rest hgA)
                  have hgr9 := gr_bel (gr_bel hgr8 hb9 hgr8.size) hbA (Nat.le_refl _)
                  have hgrz := hgr9.size
                  have HWR9 := Lib.hid (HWR0.out.gr HWF.out hgr9)
                  clear HPO8 HLR8 HK8 HLR0 HLF hgA hgr8 hBY
                  clear hb9 hbA HW8 HY8 HWb HYb hbc8 hbc7
                  obtain ⟨W9, hw9⟩ : ∃ x, x = WA := ⟨_, rfl⟩
                  subst hw9
                  have hbc9 := hbcA
                  have HW9 := HWA
                  have HY9 := HYA
                  have HYO9 := HYOA
                  have hBY9 := hBYA
                  clear hbcA HWA HYA HYOA hBYA
                  have hyr := HYO9.out.rd HPL.out.1 HPL.out.2.1 HN5.out (by omega) (by omega) (by omega)
                  have HYR9 := Lib.hid hyr
                  clear hyr
                  have yl := HY9.out.lt
                  have y_0 := (HY9.out.box).2 0 _ rfl; have y_1 := (HY9.out.box).2 1 _ rfl; have y_2 := (HY9.out.box).2 2 _ rfl; have y_3 := (HY9.out.box).2 3 _ rfl
                  have zl := HW9.out.lt
                  have z_0 := (HW9.out.box).2 0 _ rfl; have z_1 := (HW9.out.box).2 1 _ rfl; have z_2 := (HW9.out.box).2 2 _ rfl; have z_3 := (HW9.out.box).2 3 _ rfl
                  go_upto_region 53 with (first | (go_at_call 7; refine (law23_num _ _).mono ?_; rintro e w' ⟨rfl, rfl⟩) | (go_at_call 18; refine (ref0_EqExec iA jA kA pA qA sA pn ic qn jc sn kc pn pc qn qc sn sc p q s _ _ (HE2.out.up hbc10).ri.p (HE2.out.up hbc10).ri.q (HE2.out.up hbc10).ri.s (HE2.out.up hbc10).rx.p (HE2.out.up hbc10).rx.q (HE2.out.up hbc10).rx.s).mono ?_; rintro e w11 ⟨rfl, hb11⟩) | (go_at_call 18; refine (ref0_EqExec Bp Ba Bs Ap Aa As pn dp qn da n5 ds pn cp qn ca n5 cs p q (s ++ freshL s a.l) c _ HYR9.out.p HYR9.out.q HYR9.out.s HWR9.out.p HWR9.out.q HWR9.out.s).mono ?_; rintro e w10 ⟨rfl, hb10⟩; have hbc10 := bel_trans hbc9 hb10; clear yl y_0 y_1 y_2 y_3 zl z_0 z_1 z_2 z_3; have il := (HE2.out.up hbc10).bi.lt; have i_0 := ((HE2.out.up hbc10).bi.box).2 0 _ rfl; have i_1 := ((HE2.out.up hbc10).bi.box).2 1 _ rfl; have i_2 := ((HE2.out.up hbc10).bi.box).2 2 _ rfl; have i_3 := ((HE2.out.up hbc10).bi.box).2 3 _ rfl; have xl := (HE2.out.up hbc10).bx.lt; have x_0 := ((HE2.out.up hbc10).bx.box).2 0 _ rfl; have x_1 := ((HE2.out.up hbc10).bx.box).2 1 _ rfl; have x_2 := ((HE2.out.up hbc10).bx.box).2 2 _ rfl; have x_3 := ((HE2.out.up hbc10).bx.box).2 3 _ rfl))
                  clear il i_0 i_1 i_2 i_3
                  clear xl x_0 x_1 x_2 x_3
                  have hb911 := bel_trans hb10 hb11
                  have hbc11 := bel_trans hbc9 hb911
                  have HY11 := Lib.hid (HY9.out.up hb911)
                  have HYO11 := Lib.hid (HYO9.out.up hb911)
                  have hBY11 := Nat.le_trans hBY9 hb911.size
                  have yl := HY11.out.lt
                  have y_0 := (HY11.out.box).2 0 _ rfl; have y_1 := (HY11.out.box).2 1 _ rfl; have y_2 := (HY11.out.box).2 2 _ rfl; have y_3 := (HY11.out.box).2 3 _ rfl
                  go_upto_region 54 with (go_at_call 24; refine (law0_Exec _ _ _ _ _ _ _ BY _ HYO11.out hBY11 (by rw [HPL.out.1]; omega) (by rw [HPL.out.2.1]; omega) (by rw [HN5.out]; omega)).mono ?_; rintro e w12 ⟨rfl, hb12⟩)
                  clear yl y_0 y_1 y_2 y_3
                  have hbc12 : Below W2.heap.size W2 w12 := Below.trans hbc11 (hb12.mono hBY2)
                  have hE12 := HE2.out.up hbc12
                  have il := hE12.bi.lt
                  have i_0 := (hE12.bi.box).2 0 _ rfl; have i_1 := (hE12.bi.box).2 1 _ rfl; have i_2 := (hE12.bi.box).2 2 _ rfl; have i_3 := (hE12.bi.box).2 3 _ rfl
                  have xl := hE12.bx.lt
                  have x_0 := (hE12.bx.box).2 0 _ rfl; have x_1 := (hE12.bx.box).2 1 _ rfl; have x_2 := (hE12.bx.box).2 2 _ rfl; have x_3 := (hE12.bx.box).2 3 _ rfl
                  clear hE12
                  go_upto_region 56 with (go_at_call 18; refine (ref0_EqExec iA jA kA pA qA sA pn ic qn jc sn kc pn pc qn qc sn sc p q s _ _ (HE2.out.up hbc12).ri.p (HE2.out.up hbc12).ri.q (HE2.out.up hbc12).ri.s (HE2.out.up hbc12).rx.p (HE2.out.up hbc12).rx.q (HE2.out.up hbc12).rx.s).mono ?_; rintro e w13 ⟨rfl, hb13⟩)
                  clear il i_0 i_1 i_2 i_3
                  clear xl x_0 x_1 x_2 x_3
                  have hbc13 := bel_trans hbc12 hb13
                  have HW13 : Hid (Blk w13 gw 28 [.slice Ap pn cp, .slice Aa qn ca, .slice As n5 cs, .int .i64 c]) := Lib.hid (((HW9.out.up hb911).bel hb12 hgwB).up hb13)
                  have HWR13 : Hid (ReadE w13 Ap pn Aa qn As n5 p q (s ++ freshL s a.l)) := Lib.hid (HWR0.out.gr HWF.out (gr_bel (gr_bel (gr_bel hgr9 hb911 hgrz) hb12 hgrB) hb13 (Nat.le_trans (Nat.le_trans hgrB hBY11) hb12.size)))
                  have zl := HW13.out.lt
                  have z_0 := (HW13.out.box).2 0 _ rfl; have z_1 := (HW13.out.box).2 1 _ rfl; have z_2 := (HW13.out.box).2 2 _ rfl; have z_3 := (HW13.out.box).2 3 _ rfl
                  have hX13 := (HE2.out.up hbc13).bx
                  have xf := hX13.frozen
                  have xl := hX13.lt
                  have x_0 := (hX13.box).2 0 _ rfl; have x_1 := (hX13.box).2 1 _ rfl; have x_2 := (hX13.box).2 2 _ rfl; have x_3 := (hX13.box).2 3 _ rfl
                  clear hX13
                  have hgx2 := (HE2.out).bx.lt
                  have HB13 := Lib.hid (HE2.out.up hbc13).bs
                  have hbw13 := bel_trans hbw2 hbc13
                  go_wp2_with (go_at_call 5; refine (ref0_CopyExec Ap Aa As pn cp qn ca n5 cs p q (s ++ freshL s a.l) c _ HWR13.out.p HWR13.out.q HWR13.out.s (by omega) (by omega) (by omega)).mono ?_; rintro e w14 ⟨vp, va, vs, rfl, hO, hb14⟩; obtain ⟨fA, fc, rfl, -⟩ := nmP hO.p HWR13.out.p.1 (by omega); obtain ⟨gA, gc, rfl, -⟩ := nmA hO.a HWR13.out.q.1 (by omega); obtain ⟨hA9, hc9, rfl, -⟩ := nmI hO.s HWR13.out.s.1 (by omega); have HO14 := Lib.hid hO; clear hO xl xf x_0 x_1 x_2 x_3 zl z_0 z_1 z_2 z_3; have hX14 := (HE2.out.up hbc13).bx.up hb14; have xf := hX14.frozen; have xl := hX14.lt; have x_0 := (hX14.box).2 0 _ rfl; have x_1 := (hX14.box).2 1 _ rfl; have x_2 := (hX14.box).2 2 _ rfl; have x_3 := (hX14.box).2 3 _ rfl; have HX14 := Lib.hid hX14; clear hX14)
                  clear xl xf x_0 x_1 x_2 x_3
                  have hgxB : gx < w13.heap.size := (HE2.out.up hbc13).bx.lt
                  have hbw14 := bel_trans hbw13 hb14
                  have hck : n5 ≤ hc9 := HO14.out.s.cap
                  have hB14 := HB13.out.up hb14
                  have hgSx : w.heap.size ≠ gx := hgSX
                  (first | (go_round; (case rel => exact ⟨k + 1, fA, pn, fc, gA, qn, gc, hA9, n5, hc9, p, q, (s ++ freshL s a.l), c, by omega, by go_num, Lib.hid (set4 HX14.out _ _ _ _), Lib.hid ((HO14.out.set4 hgxB _ _ _ _).rd HWR13.out.p.1 HWR13.out.q.1 HWR13.out.s.1 (by omega) (by omega) (by omega)), HEXN, by omega, by omega, by omega, hck, by omega, Lib.hid (hB14.set4F hgSx _ _ _ _), bel_set4 hbw14 hgxw _ _ _ _⟩); (case measure => (simp [intOf] <;> omega))) | (go_roundw; (case rel => exact ⟨k + 1, fA, pn, fc, gA, qn, gc, hA9, n5, hc9, p, q, (s ++ freshL s a.l), c, by omega, by go_num, Lib.hid (set4 HX14.out _ _ _ _), Lib.hid ((HO14.out.set4 hgxB _ _ _ _).rd HWR13.out.p.1 HWR13.out.q.1 HWR13.out.s.1 (by omega) (by omega) (by omega)), HEXN, by omega, by omega, by omega, hck, by omega, Lib.hid (hB14.set4F hgSx _ _ _ _), bel_set4 hbw14 hgxw _ _ _ _⟩); (case measure => (simp [intOf] <;> omega))) | (refine ⟨?_, by simp [intOf] <;> omega⟩; (repeat apply Exists.intro); refine ⟨?rel, ?fr⟩; (case fr => ((repeat' apply And.intro) <;> rfl)); (case rel => exact ⟨k + 1, fA, pn, fc, gA, qn, gc, hA9, n5, hc9, p, q, (s ++ freshL s a.l), c, by omega, by go_num, Lib.hid (set4 HX14.out _ _ _ _), Lib.hid ((HO14.out.set4 hgxB _ _ _ _).rd HWR13.out.p.1 HWR13.out.q.1 HWR13.out.s.1 (by omega) (by omega) (by omega)), HEXN, by omega, by omega, by omega, hck, by omega, Lib.hid (hB14.set4F hgSx _ _ _ _), bel_set4 hbw14 hgxw _ _ _ _⟩)))
      · skip
        go_wp2_with (go_at_call 25; refine (law23_wakes _).mono ?_; rintro e w9 ⟨rfl, hb9⟩)
        all_goals
          go_ret
          exact ⟨rfl, bel_trans hbw hb9⟩
end Go.Proofs.YtbakkpabiknlmaaGreat
