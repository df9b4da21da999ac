/- The law ExecFold. -/
import Derived.Test.YtbakkpabiknlmaaSzEla
import Derived.Deep.RegionHeld3
namespace Go.Proofs.Ytbakkpabiknlmaa
open Go.RowKit
set_option linter.unusedSimpArgs false
set_option linter.unusedVariables false

/-- A slice is empty or does not lie in this block. -/
def FarN (A : Option Addr) (n g : Nat) : Prop := n = 0 ∨ ∀ b o s, A = some ⟨b, o, s⟩ → b ≠ g
theorem PairsR.set_far {w : World} {A : Option Addr} {n : Nat} {l : List PairD} (h : PairsR w A n l) {g o : Nat} (hf : FarN A n g) (u : Value) : PairsR (w.setCell ⟨g, o, none⟩ u) A n l := by
  refine ⟨h.1, h.2.1, h.2.2.1, fun hn => ?_⟩
  obtain ⟨b, off, e, hb, hc⟩ := h.2.2.2 hn
  refine ⟨b, off, e, by simpa using hb, fun j v hj => ?_⟩
  rw [← hc j v hj]
  exact World.cell?_of_block (Below.heap_setCell _ _ _ _ ((hf.resolve_left (by omega)) b off none e))
theorem AcctsR.set_far {w : World} {A : Option Addr} {n : Nat} {l : List AcctD} (h : AcctsR w A n l) {g o : Nat} (hf : FarN A n g) (u : Value) : AcctsR (w.setCell ⟨g, o, none⟩ u) A n l := by
  refine ⟨h.1, h.2.1, h.2.2.1, fun hn => ?_⟩
  obtain ⟨b, off, e, hb, hc⟩ := h.2.2.2 hn
  refine ⟨b, off, e, by simpa using hb, fun j v hj => ?_⟩
  rw [← hc j v hj]
  exact World.cell?_of_block (Below.heap_setCell _ _ _ _ ((hf.resolve_left (by omega)) b off none e))
theorem PairsR.farN {w : World} {A : Option Addr} {n : Nat} {l : List PairD} (h : PairsR w A n l) {g : Nat} (hg : w.heap.size ≤ g) : FarN A n g := by
  rcases Nat.eq_zero_or_pos n with h0 | h0
  · exact .inl h0
  · obtain ⟨b, off, e, hb, _⟩ := h.2.2.2 h0
    exact .inr (fun b' o' s' e' => by rw [e] at e'; injection e' with e'; injection e' with e1; omega)
theorem AcctsR.farN {w : World} {A : Option Addr} {n : Nat} {l : List AcctD} (h : AcctsR w A n l) {g : Nat} (hg : w.heap.size ≤ g) : FarN A n g := by
  rcases Nat.eq_zero_or_pos n with h0 | h0
  · exact .inl h0
  · obtain ⟨b, off, e, hb, _⟩ := h.2.2.2 h0
    exact .inr (fun b' o' s' e' => by rw [e] at e'; injection e' with e'; injection e' with e1; omega)
theorem OwnP.farN {w : World} {C : Nat} {A : Option Addr} {n c : Nat} {l : List PairD} (h : OwnP w C (.slice A n c) l) {g : Nat} (hg : g < C) : FarN A n g := .inr (fun b o s e => by
  subst e
  rcases own_shape h with ⟨e2, _⟩ | ⟨g', c2, e2, hg', _⟩
  · injection e2 with e3; cases e3
  · injection e2 with e3; injection e3 with e3; injection e3 with e4; omega)
theorem OwnA.farN {w : World} {C : Nat} {A : Option Addr} {n c : Nat} {l : List AcctD} (h : OwnA w C (.slice A n c) l) {g : Nat} (hg : g < C) : FarN A n g := .inr (fun b o s e => by
  subst e
  rcases own_shape h with ⟨e2, _⟩ | ⟨g', c2, e2, hg', _⟩
  · injection e2 with e3; cases e3
  · injection e2 with e3; injection e3 with e3; injection e3 with e4; omega)
theorem wpAnyH_takeD {P : Program} {ops : Array Oper} {Q : Exit → Act → World → Prop} {md : Region.Mode} {S : World → Prop} {i : Nat} {oi : Oper} {d : Option Tmp} {v : Value} {fuel : Nat} {listed : Array Bool} {a : Act} {w : World} (hi : ops[i]? = some oi) (hd : oi.dst = d)
    (hs : Region.noSelect ops = true) (hf : Region.free md ops listed i = true) (hr : (Region.ready md ops listed).contains i = true)
    (hQ : ∀ c a w, Q (.panic c) (a.put d v) w → Q (.panic c) a w) (hy : YieldsIf P ops S oi v a) (hS : S w)
    (h : wpAnyH P md ops Q S fuel (listed.setIfInBounds i true) (a.put d v) w) : wpAnyH P md ops Q S (fuel + 1) listed a w := by
  subst hd; exact wpAnyH_take hi hs hf hr hQ hy hS h
theorem wpAnyH_tk {P : Program} {ops : Array Oper} {Q : Exit → Act → World → Prop} {md : Region.Mode} {S : World → Prop} (i : Nat) (d : Option Tmp) {oi : Oper} {v : Value} {fuel : Nat} {listed : Array Bool} {a : Act} {w : World} (hi : ops[i]? = some oi) (hd : oi.dst = d)
    (hv : ∀ w, S w → (execOp a.eval oi).run P w = .ok (.value v) w) (h : wpAnyH P md ops Q S fuel (listed.setIfInBounds i true) (a.put d v) w)
    (hs : Region.noSelect ops = true := by kernel_rfl) (hf : Region.free md ops listed i = true := by kernel_rfl) (hr : (Region.ready md ops listed).contains i = true := by kernel_rfl) (hw : Region.wanted oi (yielded ops a.tmps) = true := by rfl)
    (hQ : ∀ c a w, Q (.panic c) (a.put d v) w → Q (.panic c) a w := by exact fun _ _ _ h => h) (hS : S w := by assumption) : wpAnyH P md ops Q S (fuel + 1) listed a w :=
  wpAnyH_takeD hi hd hs hf hr hQ (Or.inl ⟨hw, hv⟩) hS h
theorem wp_world {F : World → Prop} {w : World} (h : ∀ W, W = w → F W) : F w := h w rfl
theorem Blk.rng {w : World} {g : Nat} {t : TypeId} {cs : List Value} (h : Blk w g t cs) : w.rangeAt g 0 cs := fun j u hu => by rw [Nat.zero_add]; exact h.box.2 j u hu
/-- Where what may be executed is read. -/
structure ReadE (W : World) (pA : Option Addr) (pn : Nat) (qA : Option Addr) (qn : Nat) (sA : Option Addr) (sn : Nat) (p : List PairD) (q : List AcctD) (s : List Int) : Prop where
  p : PairsR W pA pn p
  q : AcctsR W qA qn q
  s : IntsR W sA sn s
theorem ReadE.up {W W' : World} {pA qA sA : Option Addr} {pn qn sn : Nat} {p q s} (h : ReadE W pA pn qA qn sA sn p q s) (hb : Below W.heap.size W W') : ReadE W' pA pn qA qn sA sn p q s := ⟨h.p.up hb, h.q.up hb, h.s.up hb⟩
theorem ExO.rd {w : World} {B : Nat} {pA qA sA : Option Addr} {pn pc qn qc sn sc : Nat} {p q s} (h : ExO w B (.slice pA pn pc) (.slice qA qn qc) (.slice sA sn sc) p q s) (h1 : p.length = pn) (h2 : q.length = qn) (h3 : s.length = sn) (b1 : pn ≤ 1000000) (b2 : qn ≤ 1000000) (b3 : sn ≤ 1000000) : ReadE w pA pn qA qn sA sn p q s := by
  obtain ⟨A1, c1, e1, r1⟩ := nmP h.p h1 (by omega)
  obtain ⟨A2, c2, e2, r2⟩ := nmA h.a h2 (by omega)
  obtain ⟨A3, c3, e3, r3⟩ := nmI h.s h3 (by omega)
  injection e1 with e1 _ _; injection e2 with e2 _ _; injection e3 with e3 _ _
  subst e1; subst e2; subst e3
  exact ⟨r1, r2, r3⟩
theorem OwnI.cap {w : World} {B : Nat} {A : Option Addr} {n c : Nat} {l : List Int} (h : OwnI w B (.slice A n c) l) : n ≤ c := by
  rcases own_shape h with ⟨e, h0⟩ | ⟨g, c2, e, _, h1⟩
  · injection e with e1 e2 e3; omega
  · injection e with e1 e2 e3; omega
theorem ExO.set4 {w : World} {B b : Nat} {vp va vs : Value} {p q s} (h : ExO w B vp va vs p q s) (hb : b < B) (x0 x1 x2 x3 : Value) : ExO ((((w.setCell ⟨b, 0, none⟩ x0).setCell ⟨b, 1, none⟩ x1).setCell ⟨b, 2, none⟩ x2).setCell ⟨b, 3, none⟩ x3) B vp va vs p q s := (((h.set hb x0).set hb x1).set hb x2).set hb x3
theorem bel_set4 {n : Nat} {w x : World} {b : Nat} (h : Below n w x) (hb : n ≤ b) (x0 x1 x2 x3 : Value) : Below n w ((((x.setCell ⟨b, 0, none⟩ x0).setCell ⟨b, 1, none⟩ x1).setCell ⟨b, 2, none⟩ x2).setCell ⟨b, 3, none⟩ x3) := (((h.setCell (p := ⟨b, 0, none⟩) hb x0).setCell (p := ⟨b, 1, none⟩) hb x1).setCell (p := ⟨b, 2, none⟩) hb x2).setCell (p := ⟨b, 3, none⟩) hb x3
theorem grown_set4 {w x : World} {g : Nat} (h : w.grownBy x (some g)) (x0 x1 x2 x3 : Value) : w.grownBy ((((x.setCell ⟨g, 0, none⟩ x0).setCell ⟨g, 1, none⟩ x1).setCell ⟨g, 2, none⟩ x2).setCell ⟨g, 3, none⟩ x3) (some g) := grown_set (grown_set (grown_set (grown_set h rfl) rfl) rfl) rfl
theorem Blk.far4 {w : World} {g b : Nat} {t : TypeId} {cs : List Value} (h : Blk w g t cs) (hne : g ≠ b) (x0 x1 x2 x3 : Value) : Blk ((((w.setCell ⟨b, 0, none⟩ x0).setCell ⟨b, 1, none⟩ x1).setCell ⟨b, 2, none⟩ x2).setCell ⟨b, 3, none⟩ x3) g t cs := (((h.far (p := ⟨b, 0, none⟩) hne x0).far (p := ⟨b, 1, none⟩) hne x1).far (p := ⟨b, 2, none⟩) hne x2).far (p := ⟨b, 3, none⟩) hne x3
theorem BoxR.set4F {w : World} {g b : Nat} {cs : List Value} (h : BoxR w g cs) (hne : g ≠ b) (x0 x1 x2 x3 : Value) : BoxR ((((w.setCell ⟨b, 0, none⟩ x0).setCell ⟨b, 1, none⟩ x1).setCell ⟨b, 2, none⟩ x2).setCell ⟨b, 3, none⟩ x3) g cs := by
  refine ⟨by simpa using h.1, fun j v hj => ?_⟩
  rw [← h.2 j v hj]
  rw [World.cell?_of_block (Below.heap_setCell _ _ _ _ hne), World.cell?_of_block (Below.heap_setCell _ _ _ _ hne), World.cell?_of_block (Below.heap_setCell _ _ _ _ hne), World.cell?_of_block (Below.heap_setCell _ _ _ _ hne)]
theorem ref0_DigestsB (A : Option Addr) (n c : Nat) (l : List Int) (y : Bool) (w : World) (hl : IntsR w A n l) (hy : betS l 1 65536 = y) : Calls Try.prog 7 #[.slice A n c] w fun e w' => e = .returned (.bool y) ∧ Below w.heap.size w w' :=
  (ref0_Digests A n c l w hl).mono fun e w' ⟨h1, h2⟩ => ⟨by rw [h1, hy], h2 ▸ Below.refl _ _⟩
theorem PushO.set4 {w : World} {B b : Nat} {vp va vs vf : Value} {p q s F} (h : PushO w B vp va vs vf p q s F) (hb : b < B) (x0 x1 x2 x3 : Value) : PushO ((((w.setCell ⟨b, 0, none⟩ x0).setCell ⟨b, 1, none⟩ x1).setCell ⟨b, 2, none⟩ x2).setCell ⟨b, 3, none⟩ x3) B vp va vs vf p q s F := (((h.set hb x0).set hb x1).set hb x2).set hb x3

theorem set2X {w : World} {g : Nat} {t : TypeId} {a b : Value} (h : Blk w g t [a, b]) (x0 x1 : Value) : Blk ((w.setCell ⟨g, 0, none⟩ x0).setCell ⟨g, 1, none⟩ x1) g t [x0, x1] := (h.set_ 0 x0).set_ 1 x1
theorem bel_set2X {n : Nat} {w x : World} {b : Nat} (h : Below n w x) (hb : n ≤ b) (x0 x1 : Value) : Below n w ((x.setCell ⟨b, 0, none⟩ x0).setCell ⟨b, 1, none⟩ x1) := (h.setCell (p := ⟨b, 0, none⟩) hb x0).setCell (p := ⟨b, 1, none⟩) hb x1
theorem missX_head {l : List HeldD} {s : List Int} {c : Nat} (h : c < s.length) (hk : khasH l (nth s c) = false) : ∃ r, missL l (s.drop c) = nth s c :: r := by
  have e : nth s c = s[c] := by unfold nth; simp [h]
  refine ⟨missL l (s.drop (c + 1)), ?_⟩
  unfold missL
  rw [List.drop_eq_getElem_cons h, ← e, List.filter_cons_of_pos (by rw [hk]; rfl)]
set_option maxRecDepth 100000 in
set_option maxHeartbeats 16000000 in
theorem law_ExecFold (P : ScrP) (D : ScrD) (w : World) (h : ScrR w P D) :
    Calls Try.prog 3 #[P.val D] w fun e w' => e = .returned (.bool true) ∧ Below w.heap.size w w' := by
  obtain ⟨⟨uA, un, uc⟩, ⟨vA, vn, vc⟩, ⟨tA, tn, tc⟩, ⟨lA, ln, lc⟩⟩ := P
  have H := Lib.hid h
  have HP : Hid (PairsR w uA un D.e.p) := Lib.hid h.p
  have HQ : Hid (AcctsR w vA vn D.e.q) := Lib.hid h.q
  have HS : Hid (IntsR w tA tn D.e.s) := Lib.hid h.s
  have HL : Hid (ActsR w lA ln D.l) := Lib.hid h.l
  have hsc : tn ≤ tc := h.sc
  clear h
  obtain ⟨ec, hec⟩ : ∃ z, D.e.c = z := ⟨_, rfl⟩
  obtain ⟨yE, hyE⟩ : ∃ y, exB D.e.p D.e.q D.e.s ec = y := ⟨_, rfl⟩
  have HEC := Lib.hid hec
  have HYE := Lib.hid hyE
  have hheavy := law23_heavy ⟨⟨uA, un, uc⟩, ⟨vA, vn, vc⟩, ⟨tA, tn, tc⟩, ⟨lA, ln, lc⟩⟩ D
  show Calls Try.prog 3 #[.agg #[.slice uA un uc, .slice vA vn vc, .slice tA tn tc, .int .i64 D.e.c, .slice lA ln lc]] w _
  simp only [ScrP.val] at hheavy
  rw [hec] at hheavy ⊢
  have HHV := Lib.hid hheavy
  clear hheavy hec hyE
  go_enter Try.func3, Try.ntmps3
  go_wp2_with fail
  refine (HHV.out _ (H.out.up (by (repeat (first | (with_reducible exact Below.refl _ _) | (with_reducible assumption) | (with_reducible apply bel_alloc) | (with_reducible apply bel_drew) | (with_reducible apply bel_drewN) | (with_reducible refine bel_trans ?_ (by with_reducible assumption)) | (with_reducible refine bel_trans ?_ (HF.out _)) | (with_reducible refine bel_set ?_ (by simp) _) | (with_reducible refine bel_set ?_ (by simp; omega) _) | (with_reducible refine bel_set ?_ (by omega) _)))))).mono ?_
  rintro e w1 ⟨x, rfl, hx, hb1⟩
  cases x
  case true =>
    clear hx
    go_wp2_with fail
    go_ret
    exact ⟨rfl, by (repeat (first | (with_reducible exact Below.refl _ _) | (with_reducible assumption) | (with_reducible apply bel_alloc) | (with_reducible apply bel_drew) | (with_reducible apply bel_drewN) | (with_reducible refine bel_trans ?_ (by with_reducible assumption)) | (with_reducible refine bel_trans ?_ (HF.out _)) | (with_reducible refine bel_set ?_ (by simp) _) | (with_reducible refine bel_set ?_ (by simp; omega) _) | (with_reducible refine bel_set ?_ (by omega) _)))⟩
  case false =>
  have hLt := hx rfl
  have hp4 : un ≤ 4000 := hLt.p
  have hq4 : vn ≤ 4000 := hLt.q
  have hs3 : tn ≤ 300 := hLt.s
  have hl1 : ln ≤ 100 := hLt.l
  have HLT := Lib.hid hLt
  have hB1 : BoxR w1 w.heap.size [.slice uA un uc, .slice vA vn vc, .slice tA tn tc, .int .i64 ec, .slice lA ln lc] := (BoxR.new w [.slice uA un uc, .slice vA vn vc, .slice tA tn tc, .int .i64 ec, .slice lA ln lc] 31).up hb1
  have hbw1 : Below w.heap.size w w1 := by (repeat (first | (with_reducible exact Below.refl _ _) | (with_reducible assumption) | (with_reducible apply bel_alloc) | (with_reducible apply bel_drew) | (with_reducible apply bel_drewN) | (with_reducible refine bel_trans ?_ (by with_reducible assumption)) | (with_reducible refine bel_trans ?_ (HF.out _)) | (with_reducible refine bel_set ?_ (by simp) _) | (with_reducible refine bel_set ?_ (by simp; omega) _) | (with_reducible refine bel_set ?_ (by omega) _)))
  have HB1 := Lib.hid hB1
  have hg1 := hB1.1
  have b_0 := (hB1).2 0 _ rfl; have b_1 := (hB1).2 1 _ rfl; have b_2 := (hB1).2 2 _ rfl; have b_3 := (hB1).2 3 _ rfl; have b_4 := (hB1).2 4 _ rfl
  clear hx hLt hb1 hB1
  cases yE
  case false =>
    go_wp2_with (go_at_call 5; refine (ref22_Exec uA vA tA un uc vn vc tn tc D.e.p D.e.q D.e.s ec _ _ (HP.out.up hbw1) (HQ.out.up hbw1) (HS.out.up hbw1) hsc (by omega) HYE.out).mono ?_; rintro e w2 ⟨rfl, hb2⟩)
    go_ret
    exact ⟨rfl, by (repeat (first | (with_reducible exact Below.refl _ _) | (with_reducible assumption) | (with_reducible apply bel_alloc) | (with_reducible apply bel_drew) | (with_reducible apply bel_drewN) | (with_reducible refine bel_trans ?_ (by with_reducible assumption)) | (with_reducible refine bel_trans ?_ (HF.out _)) | (with_reducible refine bel_set ?_ (by simp) _) | (with_reducible refine bel_set ?_ (by simp; omega) _) | (with_reducible refine bel_set ?_ (by omega) _)))⟩
  case true =>
  go_upto_region 5 with (go_at_call 5; refine (ref22_Exec uA vA tA un uc vn vc tn tc D.e.p D.e.q D.e.s ec _ _ (HP.out.up hbw1) (HQ.out.up hbw1) (HS.out.up hbw1) hsc (by omega) HYE.out).mono ?_; rintro e w2 ⟨rfl, hb2⟩)
  have hbw2 : Below w.heap.size w w2 := by (repeat (first | (with_reducible exact Below.refl _ _) | (with_reducible assumption) | (with_reducible apply bel_alloc) | (with_reducible apply bel_drew) | (with_reducible apply bel_drewN) | (with_reducible refine bel_trans ?_ (by with_reducible assumption)) | (with_reducible refine bel_trans ?_ (HF.out _)) | (with_reducible refine bel_set ?_ (by simp) _) | (with_reducible refine bel_set ?_ (by simp; omega) _) | (with_reducible refine bel_set ?_ (by omega) _)))
  have HB2 := Lib.hid (HB1.out.up hb2)
  clear b_0 b_1 b_2 b_3 b_4 hg1 HB1 hbw1 hb2 HHV
  have hec0 := (exB_iff.1 HYE.out).2.2
  obtain ⟨c0, hc0⟩ : ∃ c0 : Nat, ec = (c0 : Int) := ⟨ec.toNat, by omega⟩
  subst hc0
  clear hec0
  have hg0 := HB2.out.1
  have b_0 := (HB2.out).2 0 _ rfl; have b_1 := (HB2.out).2 1 _ rfl; have b_2 := (HB2.out).2 2 _ rfl; have b_3 := (HB2.out).2 3 _ rfl; have b_4 := (HB2.out).2 4 _ rfl
  go_upto_region 6 with (go_at_call 6; refine (ref0_CopyExec uA vA tA un uc vn vc tn tc D.e.p D.e.q D.e.s c0 _ (HP.out.up hbw2) (HQ.out.up hbw2) (HS.out.up hbw2) (by omega) (by omega) (by omega)).mono ?_; rintro e w3 ⟨vp, va, vs, rfl, hO, hb3⟩; obtain ⟨pA, pc, rfl, -⟩ := nmP hO.p HP.out.1 (by omega); obtain ⟨qA, qc, rfl, -⟩ := nmA hO.a HQ.out.1 (by omega); obtain ⟨sA, sc, rfl, -⟩ := nmI hO.s HS.out.1 (by omega); have HO3 := Lib.hid hO; clear hO)
  clear hg0 b_0 b_1 b_2 b_3 b_4
  refine wp_world (fun W3 hW3 => ?_)
  obtain ⟨gx, hgx⟩ : ∃ g, g = w3.heap.size := ⟨_, rfl⟩
  have HX3 : Hid (Blk W3 gx 28 [.slice pA un pc, .slice qA vn qc, .slice sA tn sc, .int .i64 (c0 : Int)]) := Lib.hid (by rw [hW3, hgx]; exact Blk.new w3 28 [.slice pA un pc, .slice qA vn qc, .slice sA tn sc, .int .i64 (c0 : Int)])
  have hb33 : Below w3.heap.size w3 W3 := by rw [hW3]; exact bel_alloc (Below.refl _ _)
  have hgxw : w.heap.size ≤ gx := by rw [hgx]; have h1 := hbw2.size; have h2 := hb3.size; omega
  have hgSX : w.heap.size ≠ gx := by rw [hgx]; have h1 := HB2.out.1; have h2 := hb3.size; omega
  rw [← hgx]
  clear hW3 hgx
  have hsk : tn ≤ sc := HO3.out.s.cap
  have HR3 : Hid (ReadE W3 pA un qA vn sA tn D.e.p D.e.q (D.e.s ++ [])) := Lib.hid (by rw [List.append_nil]; exact (HO3.out.up hb33).rd HP.out.1 HQ.out.1 HS.out.1 (by omega) (by omega) (by omega))
  have hb23 := bel_trans hb3 hb33
  have HB3 := Lib.hid (HB2.out.up hb23)
  have hbw3 := bel_trans hbw2 hb23
  have HF0 := Lib.hid (FoldI.start HYE.out)
  clear HO3 hb3 hb33 hb23 HB2 hbw2
  go_wp2_with fail
  go_loopw [3, 4, 6] (fun s3 s4 ix wr => ∃ (k : Nat) (al : List Int) (aA : Option Addr) (an ac : Nat) (hd : List HeldD) (vs : List Value) (hA : Option Addr) (hn hc : Nat) (pA : Option Addr) (pn pc : Nat) (qA : Option Addr) (qn qc : Nat) (sA : Option Addr) (sn sc : Nat) (P : List PairD) (Q : List AcctD) (cn : Nat), k ≤ ln ∧ ix = .int .i64 k ∧ s3 = .slice aA an ac ∧ s4 = .slice hA hn hc ∧ Hid (OwnI wr (w.heap.size + 1) (.slice aA an ac) al) ∧ Hid (HeldO wr w.heap.size (fun b => (Value.slice aA an ac).ownBlock = some b ∨ b = gx) (.slice hA hn hc) vs hd) ∧ Hid (al.length = an ∧ hd.length = hn) ∧ Hid (Blk wr gx 28 [.slice pA pn pc, .slice qA qn qc, .slice sA sn sc, .int .i64 (cn : Int)]) ∧ Hid (ReadE wr pA pn qA qn sA sn P Q (D.e.s ++ al)) ∧ Hid (FoldI D.e.s D.e.p D.e.q c0 hd al P Q cn) ∧ pn ≤ 4096 ∧ qn ≤ 4096 ∧ sn ≤ 300 + 6000 * k ∧ an ≤ 6000 * k ∧ hn ≤ 6000 * k ∧ sn ≤ sc ∧ k ≤ 12 ∧ Hid (BoxR wr w.heap.size [.slice uA un uc, .slice vA vn vc, .slice tA tn tc, .int .i64 c0, .slice lA ln lc]) ∧ Below w.heap.size w wr) (fun _ _ ix _ => ln - (intOf ix).toNat)
  case atStart => exact ⟨0, [], none, 0, 0, [], [], none, 0, 0, pA, un, pc, qA, vn, qc, sA, tn, sc, D.e.p, D.e.q, c0, Nat.zero_le _, rfl, rfl, rfl, Lib.hid (OwnI.nil _ _), Lib.hid (HeldO.nil _ _ _), Lib.hid ⟨rfl, rfl⟩, HX3, HR3, HF0, by omega, by omega, by omega, by omega, by omega, hsk, by omega, HB3, hbw3⟩
  case round =>
    clear HX3 HR3 HF0 HB3 hbw3 hsk
    obtain ⟨k, al, aA, an, ac, hd, vs, hA, hn, hc, pA, pn, pc, qA, qn, qc, sA, sn, sc, P, Q, cn, hk, rfl, rfl, rfl, HAL, HHD, HLN, HX, HRX, HFO, hp4', hq4', hs4', han, hhn, hsk, hk12, HB, hbw⟩ := hrel
    (obtain ⟨wk, hwk⟩ : ∃ x, x = wr := ⟨_, rfl⟩); subst hwk
    have hg0 := HB.out.1
    have b_0 := (HB.out).2 0 _ rfl; have b_1 := (HB.out).2 1 _ rfl; have b_2 := (HB.out).2 2 _ rfl; have b_3 := (HB.out).2 3 _ rfl; have b_4 := (HB.out).2 4 _ rfl
    by_cases hlt : k < ln ∧ k < 12
    · skip
      obtain ⟨hlt1, hlt2⟩ := hlt
      obtain ⟨ab, aoff, rfl, hab, hac⟩ := (HL.out).2.2 (by omega)
      obtain ⟨A5, m5, d5, C5, k5, e5, f0, f1, f2, hI, hH⟩ := hac k hlt1
      obtain ⟨a, ha⟩ : ∃ a, acth D.l k = a := ⟨_, rfl⟩
      rw [ha] at f0 hI hH
      have ham : a ∈ D.l := by rw [← ha]; have := HL.out.1; simp [acth, show k < D.l.length by omega]
      have hm6 : m5 ≤ 6000 := by rw [← hI.1]; exact HLT.out.li a ham
      have hk6 : k5 ≤ 6000 := by rw [← hH.1]; exact HLT.out.hi a ham
      have HI0 := Lib.hid hI
      have HH0 := Lib.hid hH
      have HF12 : Hid (w.cell? ⟨ab, aoff + k * 3 + 1, none⟩ = some (.slice A5 m5 d5) ∧ w.cell? ⟨ab, aoff + k * 3 + 2, none⟩ = some (.slice C5 k5 e5)) := Lib.hid ⟨f1, f2⟩
      clear hac ha hI hH ham f0 f1 f2
      have c1 := (hbw.cell (p := ⟨ab, aoff + k * 3 + 1, none⟩) hab).trans HF12.out.1
      have hal := Nat.lt_of_lt_of_le hab hbw.size
      obtain ⟨yd, hyd⟩ : ∃ z, betS a.l 1 65536 = z := ⟨_, rfl⟩
      obtain ⟨yh, hyh⟩ : ∃ z, hdB a.h = z := ⟨_, rfl⟩
      have HYD := Lib.hid hyd
      have HYH := Lib.hid hyh
      clear hyd hyh
      cases yd
      · skip
        go_wp2_with (go_at_call 7; refine (ref0_DigestsB A5 m5 d5 a.l false _ (HI0.out.up hbw) HYD.out).mono ?_; rintro e w4 ⟨rfl, hb4⟩; have hbw4 := bel_trans hbw hb4; clear hg0 b_0 b_1 b_2 b_3 b_4 c1 hal; have hB4 := HB.out.up hb4; have hg0 := hB4.1; have b_0 := (hB4).2 0 _ rfl; have b_1 := (hB4).2 1 _ rfl; have b_2 := (hB4).2 2 _ rfl; have b_3 := (hB4).2 3 _ rfl; have b_4 := (hB4).2 4 _ rfl; clear hB4; have c2 := (hbw4.cell (p := ⟨ab, aoff + k * 3 + 2, none⟩) hab).trans HF12.out.2; have hal := Nat.lt_of_lt_of_le hab hbw4.size)
        have HAL4 := Lib.hid (HAL.out.up hb4)
        have HHD4 := Lib.hid (HHD.out.up hb4)
        have HX4 := Lib.hid (HX.out.up hb4)
        have HRX4 := Lib.hid (HRX.out.up hb4)
        have HB4 := Lib.hid (HB.out.up hb4)
        (first | (go_round; (case rel => exact ⟨k + 1, al, aA, an, ac, hd, vs, hA, hn, hc, pA, pn, pc, qA, qn, qc, sA, sn, sc, P, Q, cn, by omega, by go_num, rfl, rfl, HAL4, HHD4, HLN, HX4, HRX4, HFO, by omega, by omega, by omega, by omega, by omega, by omega, by omega, HB4, hbw4⟩); (case measure => (simp [intOf] <;> omega))) | (go_roundw; (case rel => exact ⟨k + 1, al, aA, an, ac, hd, vs, hA, hn, hc, pA, pn, pc, qA, qn, qc, sA, sn, sc, P, Q, cn, by omega, by go_num, rfl, rfl, HAL4, HHD4, HLN, HX4, HRX4, HFO, by omega, by omega, by omega, by omega, by omega, by omega, by omega, HB4, hbw4⟩); (case measure => (simp [intOf] <;> omega))) | (refine ⟨?_, by simp [intOf] <;> omega⟩; (repeat apply Exists.intro); refine ⟨?rel, ?fr⟩; (case fr => ((repeat' apply And.intro) <;> rfl)); (case rel => exact ⟨k + 1, al, aA, an, ac, hd, vs, hA, hn, hc, pA, pn, pc, qA, qn, qc, sA, sn, sc, P, Q, cn, by omega, by go_num, rfl, rfl, HAL4, HHD4, HLN, HX4, HRX4, HFO, by omega, by omega, by omega, by omega, by omega, by omega, by omega, HB4, hbw4⟩)))
      · cases yh
        · skip
          go_wp2_with (first | (go_at_call 8; refine (ref13_Held C5 k5 e5 a.h false _ (HH0.out.up hbw4) HYH.out).mono ?_; rintro e w5 ⟨rfl, hb5⟩) | (go_at_call 7; refine (ref0_DigestsB A5 m5 d5 a.l true _ (HI0.out.up hbw) HYD.out).mono ?_; rintro e w4 ⟨rfl, hb4⟩; have hbw4 := bel_trans hbw hb4; clear hg0 b_0 b_1 b_2 b_3 b_4 c1 hal; have hB4 := HB.out.up hb4; have hg0 := hB4.1; have b_0 := (hB4).2 0 _ rfl; have b_1 := (hB4).2 1 _ rfl; have b_2 := (hB4).2 2 _ rfl; have b_3 := (hB4).2 3 _ rfl; have b_4 := (hB4).2 4 _ rfl; clear hB4; have c2 := (hbw4.cell (p := ⟨ab, aoff + k * 3 + 2, none⟩) hab).trans HF12.out.2; have hal := Nat.lt_of_lt_of_le hab hbw4.size))
          have hb45 := bel_trans hb4 hb5
          have HAL5 := Lib.hid (HAL.out.up hb45)
          have HHD5 := Lib.hid (HHD.out.up hb45)
          have HX5 := Lib.hid (HX.out.up hb45)
          have HRX5 := Lib.hid (HRX.out.up hb45)
          have HB5 := Lib.hid (HB.out.up hb45)
          have hbw5 := bel_trans hbw4 hb5
          (first | (go_round; (case rel => exact ⟨k + 1, al, aA, an, ac, hd, vs, hA, hn, hc, pA, pn, pc, qA, qn, qc, sA, sn, sc, P, Q, cn, by omega, by go_num, rfl, rfl, HAL5, HHD5, HLN, HX5, HRX5, HFO, by omega, by omega, by omega, by omega, by omega, by omega, by omega, HB5, hbw5⟩); (case measure => (simp [intOf] <;> omega))) | (go_roundw; (case rel => exact ⟨k + 1, al, aA, an, ac, hd, vs, hA, hn, hc, pA, pn, pc, qA, qn, qc, sA, sn, sc, P, Q, cn, by omega, by go_num, rfl, rfl, HAL5, HHD5, HLN, HX5, HRX5, HFO, by omega, by omega, by omega, by omega, by omega, by omega, by omega, HB5, hbw5⟩); (case measure => (simp [intOf] <;> omega))) | (refine ⟨?_, by simp [intOf] <;> omega⟩; (repeat apply Exists.intro); refine ⟨?rel, ?fr⟩; (case fr => ((repeat' apply And.intro) <;> rfl)); (case rel => exact ⟨k + 1, al, aA, an, ac, hd, vs, hA, hn, hc, pA, pn, pc, qA, qn, qc, sA, sn, sc, P, Q, cn, by omega, by go_num, rfl, rfl, HAL5, HHD5, HLN, HX5, HRX5, HFO, by omega, by omega, by omega, by omega, by omega, by omega, by omega, HB5, hbw5⟩)))
        · skip
          go_upto_region 10 with (first | (go_at_call 8; refine (ref13_Held C5 k5 e5 a.h true _ (HH0.out.up hbw4) HYH.out).mono ?_; rintro e w5 ⟨rfl, hb5⟩) | (go_at_call 7; refine (ref0_DigestsB A5 m5 d5 a.l true _ (HI0.out.up hbw) HYD.out).mono ?_; rintro e w4 ⟨rfl, hb4⟩; have hbw4 := bel_trans hbw hb4; clear hg0 b_0 b_1 b_2 b_3 b_4 c1 hal; have hB4 := HB.out.up hb4; have hg0 := hB4.1; have b_0 := (hB4).2 0 _ rfl; have b_1 := (hB4).2 1 _ rfl; have b_2 := (hB4).2 2 _ rfl; have b_3 := (hB4).2 3 _ rfl; have b_4 := (hB4).2 4 _ rfl; clear hB4; have c2 := (hbw4.cell (p := ⟨ab, aoff + k * 3 + 2, none⟩) hab).trans HF12.out.2; have hal := Nat.lt_of_lt_of_le hab hbw4.size))
          clear c2 hal hg0 b_0 b_1 b_2 b_3 b_4
          have hb45 := bel_trans hb4 hb5
          have HAL5 := Lib.hid (HAL.out.up hb45)
          have HHD5 := Lib.hid (HHD.out.up hb45)
          have HX5 := Lib.hid (HX.out.up hb45)
          have HRX5 := Lib.hid (HRX.out.up hb45)
          have HB5 := Lib.hid (HB.out.up hb45)
          have hbw5 := bel_trans hbw4 hb5
          clear HAL HHD HX HRX HB hbw hb4 hbw4 hb5 hb45
          go_wp2_with fail
          go_loopw [4, 7] (fun s4 jx wr => ∃ (j : Nat) (hd2 : List HeldD) (vs : List Value) (hA : Option Addr) (hn hc : Nat), j ≤ k5 ∧ jx = .int .i64 j ∧ s4 = .slice hA hn hc ∧ Hid (HeldO wr w.heap.size (fun b => (Value.slice aA an ac).ownBlock = some b ∨ b = gx) (.slice hA hn hc) vs hd2) ∧ Hid (hd2.length = hn) ∧ hn ≤ 6000 * k + j ∧ Hid (GrowH hd hd2 ∧ MayHs hd2) ∧ Below w5.heap.size w5 wr) (fun _ jx _ => k5 - (intOf jx).toNat)
          case atStart => exact ⟨0, hd, vs, hA, hn, hc, Nat.zero_le _, rfl, rfl, HHD5, Lib.hid HLN.out.2, by omega, Lib.hid ⟨GrowH.refl _, HFO.out.may⟩, Below.refl _ _⟩
          case round =>
            clear HHD5 vs
            obtain ⟨j, hd2, vs, hA, hn, hc, hj, rfl, rfl, HH2, HL2, hn2, HG2, hb6⟩ := hrel
            (obtain ⟨w6, hw6⟩ : ∃ x, x = wr := ⟨_, rfl⟩); subst hw6
            have hbw6 := bel_trans hbw5 hb6
            have hB6 := HB5.out.up hb6
            have hg0 := hB6.1
            have b_0 := (hB6).2 0 _ rfl; have b_1 := (hB6).2 1 _ rfl; have b_2 := (hB6).2 2 _ rfl; have b_3 := (hB6).2 3 _ rfl; have b_4 := (hB6).2 4 _ rfl
            have c2 := (hbw6.cell (p := ⟨ab, aoff + k * 3 + 2, none⟩) hab).trans HF12.out.2
            have hal := Nat.lt_of_lt_of_le hab hbw6.size
            by_cases hjk : j < k5
            · skip
              obtain ⟨cb, co, eC, hcb, hcx⟩ := HH0.out.2.2 (by omega)
              subst eC
              obtain ⟨X, xn, xc, ⟨g0, g1, g2, g3⟩, hXt⟩ := hcx j hjk
              obtain ⟨x, hx⟩ : ∃ x, hth a.h j = x := ⟨_, rfl⟩
              rw [hx] at g0 g1 g2 hXt
              have hxok := (hdB_iff.1 HYH.out) j (by rw [HH0.out.1]; exact hjk)
              have HXK : Hid (digS x.di = true ∧ bmT x.b = true) := Lib.hid (by rw [← hx]; exact ⟨hxok.1, hxok.2.1⟩)
              have HXT := Lib.hid hXt
              have HXC : Hid (w.cell? ⟨cb, co + j * 4, none⟩ = some (.int .i64 x.di) ∧ w.cell? ⟨cb, co + j * 4 + 1, none⟩ = some (.int .i64 x.b.au) ∧ w.cell? ⟨cb, co + j * 4 + 2, none⟩ = some (.int .i64 x.b.n) ∧ w.cell? ⟨cb, co + j * 4 + 3, none⟩ = some (.slice X xn xc)) := Lib.hid ⟨g0, g1, g2, g3⟩
              obtain ⟨xd, hxd⟩ : ∃ z, x.di = z := ⟨_, rfl⟩
              have HXD := Lib.hid hxd
              have hxc : w.cell? ⟨cb, co + j * 4, none⟩ = some (.int .i64 xd) := by rw [← hxd]; exact g0
              clear hcx hx hxok hXt hxd g0 g1 g2 g3
              have hhn7 : hn ≤ 80000 := by omega
              have HB6 := Lib.hid hB6
              clear hB6
              go_wp2_with fail
              clear c2 hal hg0 b_0 b_1 b_2 b_3 b_4
              go_loopw [8] (fun tx wr => ∃ at9 : Nat, at9 ≤ hn ∧ tx = .int .i64 at9 ∧ Hid (∀ t, t < at9 → (hth hd2 t).di < xd) ∧ Below w6.heap.size w6 wr) (fun tx _ => hn - (intOf tx).toNat)
              case atStart => exact ⟨0, Nat.zero_le _, rfl, Lib.hid (fun t ht => absurd ht (by omega)), Below.refl _ _⟩
              case round =>
                obtain ⟨at9, hat, rfl, HLO, hb7⟩ := hrel
                (obtain ⟨w7, hw7⟩ : ∃ x, x = wr := ⟨_, rfl⟩); subst hw7
                have w7S := HB6.out.up hb7
                have hbw7 := bel_trans hbw6 hb7
                by_cases han9 : at9 < hn
                · skip
                  obtain ⟨rA, rc, eR, hRd, hrc, -⟩ := (HH2.out.up hb7).read (by rw [HL2.out]; omega)
                  rw [HL2.out] at eR hRd
                  injection eR with eR1 eR2 eR3
                  subst eR1
                  subst eR3
                  clear eR2 hrc
                  obtain ⟨hg9, hf9, eA, hg9l, hcc⟩ := hRd.2.2 (by omega)
                  obtain ⟨Bq, mq, dq, ⟨hgc0, -, -, -⟩, -⟩ := hcc at9 han9
                  clear hcc hRd
                  obtain ⟨g9', e9', -, -⟩ := own_nz (show World.ownsRow w7 w.heap.size 44 4 (.slice hA hn hc) hn (dcells dHeld hd2 vs) from by have h9 := (HH2.out.up hb7).row; rw [HL2.out] at h9; exact h9) (by omega)
                  rw [eA] at e9'
                  injection e9' with e9'
                  injection e9' with e91 e92 _
                  subst e91
                  subst e92
                  subst eA
                  skip
                  obtain ⟨zd, hzd⟩ : ∃ z, (hth hd2 at9).di = z := ⟨_, rfl⟩
                  have hgc : w7.cell? ⟨hg9, at9 * 4, none⟩ = some (.int .i64 zd) := by rw [← hzd]; have h9 := hgc0; rw [Nat.zero_add] at h9; exact h9
                  have HZD := Lib.hid hzd
                  clear hgc0 hzd
                  have q1 : decide ((at9 : Int) < (hn : Int)) = true := by simp; omega
                  by_cases hzx : zd < xd
                  · have q2 : decide (zd < xd) = true := by simp [hzx]
                    go_upto_region 14 with fail
                    obtain ⟨S, hSd⟩ : ∃ S : World → Prop, S = fun Q => Q.cell? ⟨hg9, at9 * 4, none⟩ = some (.int .i64 zd) ∧ Q.cell? ⟨w.heap.size, 4, none⟩ = some (.slice (some ⟨ab, aoff, none⟩) ln lc) ∧ Q.cell? ⟨ab, aoff + k * 3 + 2, none⟩ = some (.slice (some ⟨cb, co, none⟩) k5 e5) ∧ Q.cell? ⟨cb, co + j * 4, none⟩ = some (.int .i64 xd) := ⟨_, rfl⟩
                    have hS1 : ∀ Q, S Q → Q.cell? ⟨hg9, at9 * 4, none⟩ = some (.int .i64 zd) := fun Q h => by rw [hSd] at h; exact h.1
                    have hS2 : ∀ Q, S Q → Q.cell? ⟨w.heap.size, 4, none⟩ = some (.slice (some ⟨ab, aoff, none⟩) ln lc) := fun Q h => by rw [hSd] at h; exact h.2.1
                    have hS3 : ∀ Q, S Q → Q.cell? ⟨ab, aoff + k * 3 + 2, none⟩ = some (.slice (some ⟨cb, co, none⟩) k5 e5) := fun Q h => by rw [hSd] at h; exact h.2.2.1
                    have hS4 : ∀ Q, S Q → Q.cell? ⟨cb, co + j * 4, none⟩ = some (.int .i64 xd) := fun Q h => by rw [hSd] at h; exact h.2.2.2
                    have hbd : Below w7.heap.size w7 w7.drew := bel_drew (Below.refl _ _)
                    have hS0 : S w7.drew := by rw [hSd]; exact ⟨(hbd.cell (p := ⟨hg9, at9 * 4, none⟩) hg9l).trans hgc, (w7S.up hbd).2 4 _ rfl, ((bel_trans hbw7 hbd).cell (p := ⟨ab, aoff + k * 3 + 2, none⟩) hab).trans HF12.out.2, ((bel_trans hbw7 hbd).cell (p := ⟨cb, co + j * 4, none⟩) hcb).trans hxc⟩
                    clear hSd
                    refine wp_region_held_drew (S := S) (by kernel_rfl) hS0 (fun hHeld => ?_)
                    clear hS0
                    generalize w7.drew = Z at *
                    (refine wpAnyH_tk 0 (some 74) (v := ?_) rfl rfl ?_ ?_; rotate_left; (focus (intro wq hSw; clear hSw; go_simp; all_goals (with_reducible rfl))); simp only [Act.put, List.setIfInBounds_toArray, List.set_cons_zero, List.set_cons_succ])
                    (refine wpAnyH_tk 1 (some 75) (v := ?_) rfl rfl ?_ ?_; rotate_left; (focus (intro wq hSw; clear hSw; go_simp; all_goals (with_reducible rfl))); simp only [Act.put, List.setIfInBounds_toArray, List.set_cons_zero, List.set_cons_succ])
                    (refine wpAnyH_tk 2 (some 76) (v := ?_) rfl rfl ?_ ?_; rotate_left; (focus (intro wq hSw; clear hSw; go_simp; all_goals (with_reducible rfl))); simp only [Act.put, List.setIfInBounds_toArray, List.set_cons_zero, List.set_cons_succ])
                    (refine wpAnyH_tk 3 (some 77) (v := ?_) rfl rfl ?_ ?_; rotate_left; (focus (intro wq hSw; clear hSw; go_simp; all_goals (with_reducible rfl))); simp only [Act.put, List.setIfInBounds_toArray, List.set_cons_zero, List.set_cons_succ])
                    (refine wpAnyH_tk 4 (some 78) (v := ?_) rfl rfl ?_ ?_; rotate_left; (focus (intro wq hSw; clear hSw; go_simp; all_goals (with_reducible rfl))); simp only [Act.put, List.setIfInBounds_toArray, List.set_cons_zero, List.set_cons_succ])
                    (refine wpAnyH_tk 5 (some 79) (v := ?_) rfl rfl ?_ ?_; rotate_left; (focus (intro wq hSw; clear hSw; go_simp; all_goals (with_reducible rfl))); simp only [Act.put, List.setIfInBounds_toArray, List.set_cons_zero, List.set_cons_succ])
                    (refine wpAnyH_tk 6 (some 80) (v := ?_) rfl rfl ?_ ?_; rotate_left; (focus (intro wq hSw; clear hSw; go_simp; all_goals (with_reducible rfl))); simp only [Act.put, List.setIfInBounds_toArray, List.set_cons_zero, List.set_cons_succ])
                    (refine wpAnyH_tk 7 (some 81) (v := ?_) rfl rfl ?_ ?_; rotate_left; (focus (intro wq hSw; clear hSw; go_simp; all_goals (with_reducible rfl))); simp only [Act.put, List.setIfInBounds_toArray, List.set_cons_zero, List.set_cons_succ])
                    (refine wpAnyH_tk 8 (some 82) (v := ?_) rfl rfl ?_ ?_; rotate_left; (focus (intro wq hSw; clear hSw; go_simp; all_goals (with_reducible rfl))); simp only [Act.put, List.setIfInBounds_toArray, List.set_cons_zero, List.set_cons_succ])
                    (refine wpAnyH_tk 9 (some 83) (v := ?_) rfl rfl ?_ ?_; rotate_left; (focus (intro wq hSw; have q1 := hS1 wq hSw; clear hSw; go_simp; all_goals (with_reducible rfl))); simp only [Act.put, List.setIfInBounds_toArray, List.set_cons_zero, List.set_cons_succ])
                    (refine wpAnyH_tk 10 (some 84) (v := ?_) rfl rfl ?_ ?_; rotate_left; (focus (intro wq hSw; clear hSw; go_simp; all_goals (with_reducible rfl))); simp only [Act.put, List.setIfInBounds_toArray, List.set_cons_zero, List.set_cons_succ])
                    (refine wpAnyH_tk 11 (some 85) (v := ?_) rfl rfl ?_ ?_; rotate_left; (focus (intro wq hSw; have q1 := hS2 wq hSw; clear hSw; go_simp; all_goals (with_reducible rfl))); simp only [Act.put, List.setIfInBounds_toArray, List.set_cons_zero, List.set_cons_succ])
                    (refine wpAnyH_tk 12 (some 86) (v := ?_) rfl rfl ?_ ?_; rotate_left; (focus (intro wq hSw; clear hSw; go_simp; all_goals (with_reducible rfl))); simp only [Act.put, List.setIfInBounds_toArray, List.set_cons_zero, List.set_cons_succ])
                    (refine wpAnyH_tk 13 (some 87) (v := ?_) rfl rfl ?_ ?_; rotate_left; (focus (intro wq hSw; clear hSw; go_simp; all_goals (with_reducible rfl))); simp only [Act.put, List.setIfInBounds_toArray, List.set_cons_zero, List.set_cons_succ])
                    (refine wpAnyH_tk 14 (some 88) (v := ?_) rfl rfl ?_ ?_; rotate_left; (focus (intro wq hSw; clear hSw; go_simp; all_goals (with_reducible rfl))); simp only [Act.put, List.setIfInBounds_toArray, List.set_cons_zero, List.set_cons_succ])
                    (refine wpAnyH_tk 15 (some 89) (v := ?_) rfl rfl ?_ ?_; rotate_left; (focus (intro wq hSw; have q1 := hS3 wq hSw; clear hSw; go_simp; all_goals (with_reducible rfl))); simp only [Act.put, List.setIfInBounds_toArray, List.set_cons_zero, List.set_cons_succ])
                    (refine wpAnyH_tk 16 (some 90) (v := ?_) rfl rfl ?_ ?_; rotate_left; (focus (intro wq hSw; clear hSw; go_simp; all_goals (with_reducible rfl))); simp only [Act.put, List.setIfInBounds_toArray, List.set_cons_zero, List.set_cons_succ])
                    (refine wpAnyH_tk 17 (some 91) (v := ?_) rfl rfl ?_ ?_; rotate_left; (focus (intro wq hSw; clear hSw; go_simp; all_goals (with_reducible rfl))); simp only [Act.put, List.setIfInBounds_toArray, List.set_cons_zero, List.set_cons_succ])
                    (refine wpAnyH_tk 18 (some 92) (v := ?_) rfl rfl ?_ ?_; rotate_left; (focus (intro wq hSw; clear hSw; go_simp; all_goals (with_reducible rfl))); simp only [Act.put, List.setIfInBounds_toArray, List.set_cons_zero, List.set_cons_succ])
                    (refine wpAnyH_tk 19 (some 93) (v := ?_) rfl rfl ?_ ?_; rotate_left; (focus (intro wq hSw; have q1 := hS4 wq hSw; clear hSw; go_simp; all_goals (with_reducible rfl))); simp only [Act.put, List.setIfInBounds_toArray, List.set_cons_zero, List.set_cons_succ])
                    (refine wpAnyH_tk 20 (some 94) (v := ?_) rfl rfl ?_ ?_; rotate_left; (focus (intro wq hSw; clear hSw; go_simp; all_goals (with_reducible rfl))); simp only [Act.put, List.setIfInBounds_toArray, List.set_cons_zero, List.set_cons_succ])
                    (refine wpAnyH_tk 21 (some 95) (v := ?_) rfl rfl ?_ ?_; rotate_left; (focus (intro wq hSw; clear hSw; go_simp; all_goals (with_reducible rfl))); simp only [Act.put, List.setIfInBounds_toArray, List.set_cons_zero, List.set_cons_succ])
                    refine wpAnyH_done (by kernel_rfl) ?_ _
                    clear hHeld hS1 hS2 hS3 hS4
                    go_wp2_with fail
                    (first | (go_round; (case rel => exact ⟨at9 + 1, by omega, by go_num, Lib.hid (fun t ht => by (rcases Nat.lt_or_ge t at9 with h9 | h9; exact HLO.out t h9; (obtain rfl : t = at9 := by omega); rw [HZD.out]; exact hzx)), bel_trans hb7 hbd⟩); (case measure => (simp [intOf] <;> omega))) | (go_roundw; (case rel => exact ⟨at9 + 1, by omega, by go_num, Lib.hid (fun t ht => by (rcases Nat.lt_or_ge t at9 with h9 | h9; exact HLO.out t h9; (obtain rfl : t = at9 := by omega); rw [HZD.out]; exact hzx)), bel_trans hb7 hbd⟩); (case measure => (simp [intOf] <;> omega))) | (refine ⟨?_, by simp [intOf] <;> omega⟩; (repeat apply Exists.intro); refine ⟨?rel, ?fr⟩; (case fr => ((repeat' apply And.intro) <;> rfl)); (case rel => exact ⟨at9 + 1, by omega, by go_num, Lib.hid (fun t ht => by (rcases Nat.lt_or_ge t at9 with h9 | h9; exact HLO.out t h9; (obtain rfl : t = at9 := by omega); rw [HZD.out]; exact hzx)), bel_trans hb7 hbd⟩)))
                  · have q2 : decide (zd < xd) = false := by simp; omega
                    go_upto_region 14 with fail
                    obtain ⟨S, hSd⟩ : ∃ S : World → Prop, S = fun Q => Q.cell? ⟨hg9, at9 * 4, none⟩ = some (.int .i64 zd) ∧ Q.cell? ⟨w.heap.size, 4, none⟩ = some (.slice (some ⟨ab, aoff, none⟩) ln lc) ∧ Q.cell? ⟨ab, aoff + k * 3 + 2, none⟩ = some (.slice (some ⟨cb, co, none⟩) k5 e5) ∧ Q.cell? ⟨cb, co + j * 4, none⟩ = some (.int .i64 xd) := ⟨_, rfl⟩
                    have hS1 : ∀ Q, S Q → Q.cell? ⟨hg9, at9 * 4, none⟩ = some (.int .i64 zd) := fun Q h => by rw [hSd] at h; exact h.1
                    have hS2 : ∀ Q, S Q → Q.cell? ⟨w.heap.size, 4, none⟩ = some (.slice (some ⟨ab, aoff, none⟩) ln lc) := fun Q h => by rw [hSd] at h; exact h.2.1
                    have hS3 : ∀ Q, S Q → Q.cell? ⟨ab, aoff + k * 3 + 2, none⟩ = some (.slice (some ⟨cb, co, none⟩) k5 e5) := fun Q h => by rw [hSd] at h; exact h.2.2.1
                    have hS4 : ∀ Q, S Q → Q.cell? ⟨cb, co + j * 4, none⟩ = some (.int .i64 xd) := fun Q h => by rw [hSd] at h; exact h.2.2.2
                    have hbd : Below w7.heap.size w7 w7.drew := bel_drew (Below.refl _ _)
                    have hS0 : S w7.drew := by rw [hSd]; exact ⟨(hbd.cell (p := ⟨hg9, at9 * 4, none⟩) hg9l).trans hgc, (w7S.up hbd).2 4 _ rfl, ((bel_trans hbw7 hbd).cell (p := ⟨ab, aoff + k * 3 + 2, none⟩) hab).trans HF12.out.2, ((bel_trans hbw7 hbd).cell (p := ⟨cb, co + j * 4, none⟩) hcb).trans hxc⟩
                    clear hSd
                    refine wp_region_held_drew (S := S) (by kernel_rfl) hS0 (fun hHeld => ?_)
                    clear hS0
                    generalize w7.drew = Z at *
                    (refine wpAnyH_tk 0 (some 74) (v := ?_) rfl rfl ?_ ?_; rotate_left; (focus (intro wq hSw; clear hSw; go_simp; all_goals (with_reducible rfl))); simp only [Act.put, List.setIfInBounds_toArray, List.set_cons_zero, List.set_cons_succ])
                    (refine wpAnyH_tk 1 (some 75) (v := ?_) rfl rfl ?_ ?_; rotate_left; (focus (intro wq hSw; clear hSw; go_simp; all_goals (with_reducible rfl))); simp only [Act.put, List.setIfInBounds_toArray, List.set_cons_zero, List.set_cons_succ])
                    (refine wpAnyH_tk 2 (some 76) (v := ?_) rfl rfl ?_ ?_; rotate_left; (focus (intro wq hSw; clear hSw; go_simp; all_goals (with_reducible rfl))); simp only [Act.put, List.setIfInBounds_toArray, List.set_cons_zero, List.set_cons_succ])
                    (refine wpAnyH_tk 3 (some 77) (v := ?_) rfl rfl ?_ ?_; rotate_left; (focus (intro wq hSw; clear hSw; go_simp; all_goals (with_reducible rfl))); simp only [Act.put, List.setIfInBounds_toArray, List.set_cons_zero, List.set_cons_succ])
                    (refine wpAnyH_tk 4 (some 78) (v := ?_) rfl rfl ?_ ?_; rotate_left; (focus (intro wq hSw; clear hSw; go_simp; all_goals (with_reducible rfl))); simp only [Act.put, List.setIfInBounds_toArray, List.set_cons_zero, List.set_cons_succ])
                    (refine wpAnyH_tk 5 (some 79) (v := ?_) rfl rfl ?_ ?_; rotate_left; (focus (intro wq hSw; clear hSw; go_simp; all_goals (with_reducible rfl))); simp only [Act.put, List.setIfInBounds_toArray, List.set_cons_zero, List.set_cons_succ])
                    (refine wpAnyH_tk 6 (some 80) (v := ?_) rfl rfl ?_ ?_; rotate_left; (focus (intro wq hSw; clear hSw; go_simp; all_goals (with_reducible rfl))); simp only [Act.put, List.setIfInBounds_toArray, List.set_cons_zero, List.set_cons_succ])
                    (refine wpAnyH_tk 7 (some 81) (v := ?_) rfl rfl ?_ ?_; rotate_left; (focus (intro wq hSw; clear hSw; go_simp; all_goals (with_reducible rfl))); simp only [Act.put, List.setIfInBounds_toArray, List.set_cons_zero, List.set_cons_succ])
                    (refine wpAnyH_tk 8 (some 82) (v := ?_) rfl rfl ?_ ?_; rotate_left; (focus (intro wq hSw; clear hSw; go_simp; all_goals (with_reducible rfl))); simp only [Act.put, List.setIfInBounds_toArray, List.set_cons_zero, List.set_cons_succ])
                    (refine wpAnyH_tk 9 (some 83) (v := ?_) rfl rfl ?_ ?_; rotate_left; (focus (intro wq hSw; have q1 := hS1 wq hSw; clear hSw; go_simp; all_goals (with_reducible rfl))); simp only [Act.put, List.setIfInBounds_toArray, List.set_cons_zero, List.set_cons_succ])
                    (refine wpAnyH_tk 10 (some 84) (v := ?_) rfl rfl ?_ ?_; rotate_left; (focus (intro wq hSw; clear hSw; go_simp; all_goals (with_reducible rfl))); simp only [Act.put, List.setIfInBounds_toArray, List.set_cons_zero, List.set_cons_succ])
                    (refine wpAnyH_tk 11 (some 85) (v := ?_) rfl rfl ?_ ?_; rotate_left; (focus (intro wq hSw; have q1 := hS2 wq hSw; clear hSw; go_simp; all_goals (with_reducible rfl))); simp only [Act.put, List.setIfInBounds_toArray, List.set_cons_zero, List.set_cons_succ])
                    (refine wpAnyH_tk 12 (some 86) (v := ?_) rfl rfl ?_ ?_; rotate_left; (focus (intro wq hSw; clear hSw; go_simp; all_goals (with_reducible rfl))); simp only [Act.put, List.setIfInBounds_toArray, List.set_cons_zero, List.set_cons_succ])
                    (refine wpAnyH_tk 13 (some 87) (v := ?_) rfl rfl ?_ ?_; rotate_left; (focus (intro wq hSw; clear hSw; go_simp; all_goals (with_reducible rfl))); simp only [Act.put, List.setIfInBounds_toArray, List.set_cons_zero, List.set_cons_succ])
                    (refine wpAnyH_tk 14 (some 88) (v := ?_) rfl rfl ?_ ?_; rotate_left; (focus (intro wq hSw; clear hSw; go_simp; all_goals (with_reducible rfl))); simp only [Act.put, List.setIfInBounds_toArray, List.set_cons_zero, List.set_cons_succ])
                    (refine wpAnyH_tk 15 (some 89) (v := ?_) rfl rfl ?_ ?_; rotate_left; (focus (intro wq hSw; have q1 := hS3 wq hSw; clear hSw; go_simp; all_goals (with_reducible rfl))); simp only [Act.put, List.setIfInBounds_toArray, List.set_cons_zero, List.set_cons_succ])
                    (refine wpAnyH_tk 16 (some 90) (v := ?_) rfl rfl ?_ ?_; rotate_left; (focus (intro wq hSw; clear hSw; go_simp; all_goals (with_reducible rfl))); simp only [Act.put, List.setIfInBounds_toArray, List.set_cons_zero, List.set_cons_succ])
                    (refine wpAnyH_tk 17 (some 91) (v := ?_) rfl rfl ?_ ?_; rotate_left; (focus (intro wq hSw; clear hSw; go_simp; all_goals (with_reducible rfl))); simp only [Act.put, List.setIfInBounds_toArray, List.set_cons_zero, List.set_cons_succ])
                    (refine wpAnyH_tk 18 (some 92) (v := ?_) rfl rfl ?_ ?_; rotate_left; (focus (intro wq hSw; clear hSw; go_simp; all_goals (with_reducible rfl))); simp only [Act.put, List.setIfInBounds_toArray, List.set_cons_zero, List.set_cons_succ])
                    (refine wpAnyH_tk 19 (some 93) (v := ?_) rfl rfl ?_ ?_; rotate_left; (focus (intro wq hSw; have q1 := hS4 wq hSw; clear hSw; go_simp; all_goals (with_reducible rfl))); simp only [Act.put, List.setIfInBounds_toArray, List.set_cons_zero, List.set_cons_succ])
                    (refine wpAnyH_tk 20 (some 94) (v := ?_) rfl rfl ?_ ?_; rotate_left; (focus (intro wq hSw; clear hSw; go_simp; all_goals (with_reducible rfl))); simp only [Act.put, List.setIfInBounds_toArray, List.set_cons_zero, List.set_cons_succ])
                    (refine wpAnyH_tk 21 (some 95) (v := ?_) rfl rfl ?_ ?_; rotate_left; (focus (intro wq hSw; clear hSw; go_simp; all_goals (with_reducible rfl))); simp only [Act.put, List.setIfInBounds_toArray, List.set_cons_zero, List.set_cons_succ])
                    refine wpAnyH_done (by kernel_rfl) ?_ _
                    clear hHeld hS1 hS2 hS3 hS4
                    have HCT : Hid (CutX hd2 xd at9) := Lib.hid ⟨by rw [HL2.out]; exact hat, HLO.out, fun _ => by rw [HZD.out]; exact hzx⟩
                    have hb8 := bel_trans hb7 hbd
                    have hgcZ := (hbd.cell (p := ⟨hg9, at9 * 4, none⟩) hg9l).trans hgc
                    have hg9Z := Nat.lt_of_lt_of_le hg9l hbd.size
                    clear hb7 hbd w7S hgc hg9l
                    skip
                    have hbwZ := bel_trans hbw6 hb8
                    have ZS := HB6.out.up hb8
                    have hgc := hgcZ
                    clear hgcZ
                    by_cases hze : zd = xd
                    · have q3 : (zd == xd) = true := by simp [hze]
                      go_upto_region 16 with fail
                      obtain ⟨S, hSd⟩ : ∃ S : World → Prop, S = fun Q => Q.cell? ⟨hg9, at9 * 4, none⟩ = some (.int .i64 zd) ∧ Q.cell? ⟨w.heap.size, 4, none⟩ = some (.slice (some ⟨ab, aoff, none⟩) ln lc) ∧ Q.cell? ⟨ab, aoff + k * 3 + 2, none⟩ = some (.slice (some ⟨cb, co, none⟩) k5 e5) ∧ Q.cell? ⟨cb, co + j * 4, none⟩ = some (.int .i64 xd) := ⟨_, rfl⟩
                      have hS1 : ∀ Q, S Q → Q.cell? ⟨hg9, at9 * 4, none⟩ = some (.int .i64 zd) := fun Q h => by rw [hSd] at h; exact h.1
                      have hS2 : ∀ Q, S Q → Q.cell? ⟨w.heap.size, 4, none⟩ = some (.slice (some ⟨ab, aoff, none⟩) ln lc) := fun Q h => by rw [hSd] at h; exact h.2.1
                      have hS3 : ∀ Q, S Q → Q.cell? ⟨ab, aoff + k * 3 + 2, none⟩ = some (.slice (some ⟨cb, co, none⟩) k5 e5) := fun Q h => by rw [hSd] at h; exact h.2.2.1
                      have hS4 : ∀ Q, S Q → Q.cell? ⟨cb, co + j * 4, none⟩ = some (.int .i64 xd) := fun Q h => by rw [hSd] at h; exact h.2.2.2
                      have hbd : Below Z.heap.size Z Z.drew := bel_drew (Below.refl _ _)
                      have hS0 : S Z.drew := by rw [hSd]; exact ⟨(hbd.cell (p := ⟨hg9, at9 * 4, none⟩) hg9Z).trans hgc, (ZS.up hbd).2 4 _ rfl, ((bel_trans hbwZ hbd).cell (p := ⟨ab, aoff + k * 3 + 2, none⟩) hab).trans HF12.out.2, ((bel_trans hbwZ hbd).cell (p := ⟨cb, co + j * 4, none⟩) hcb).trans hxc⟩
                      clear hSd
                      refine wp_region_held_drew (S := S) (by kernel_rfl) hS0 (fun hHeld => ?_)
                      clear hS0
                      generalize Z.drew = Z2 at *
                      (refine wpAnyH_tk 0 (some 98) (v := ?_) rfl rfl ?_ ?_; rotate_left; (focus (intro wq hSw; clear hSw; go_simp; all_goals (with_reducible rfl))); simp only [Act.put, List.setIfInBounds_toArray, List.set_cons_zero, List.set_cons_succ])
                      (refine wpAnyH_tk 1 (some 99) (v := ?_) rfl rfl ?_ ?_; rotate_left; (focus (intro wq hSw; clear hSw; go_simp; all_goals (with_reducible rfl))); simp only [Act.put, List.setIfInBounds_toArray, List.set_cons_zero, List.set_cons_succ])
                      (refine wpAnyH_tk 2 (some 100) (v := ?_) rfl rfl ?_ ?_; rotate_left; (focus (intro wq hSw; clear hSw; go_simp; all_goals (with_reducible rfl))); simp only [Act.put, List.setIfInBounds_toArray, List.set_cons_zero, List.set_cons_succ])
                      (refine wpAnyH_tk 3 (some 101) (v := ?_) rfl rfl ?_ ?_; rotate_left; (focus (intro wq hSw; clear hSw; go_simp; all_goals (with_reducible rfl))); simp only [Act.put, List.setIfInBounds_toArray, List.set_cons_zero, List.set_cons_succ])
                      (refine wpAnyH_tk 4 (some 102) (v := ?_) rfl rfl ?_ ?_; rotate_left; (focus (intro wq hSw; clear hSw; go_simp; all_goals (with_reducible rfl))); simp only [Act.put, List.setIfInBounds_toArray, List.set_cons_zero, List.set_cons_succ])
                      (refine wpAnyH_tk 5 (some 103) (v := ?_) rfl rfl ?_ ?_; rotate_left; (focus (intro wq hSw; clear hSw; go_simp; all_goals (with_reducible rfl))); simp only [Act.put, List.setIfInBounds_toArray, List.set_cons_zero, List.set_cons_succ])
                      (refine wpAnyH_tk 6 (some 104) (v := ?_) rfl rfl ?_ ?_; rotate_left; (focus (intro wq hSw; clear hSw; go_simp; all_goals (with_reducible rfl))); simp only [Act.put, List.setIfInBounds_toArray, List.set_cons_zero, List.set_cons_succ])
                      (refine wpAnyH_tk 7 (some 105) (v := ?_) rfl rfl ?_ ?_; rotate_left; (focus (intro wq hSw; clear hSw; go_simp; all_goals (with_reducible rfl))); simp only [Act.put, List.setIfInBounds_toArray, List.set_cons_zero, List.set_cons_succ])
                      (refine wpAnyH_tk 8 (some 106) (v := ?_) rfl rfl ?_ ?_; rotate_left; (focus (intro wq hSw; clear hSw; go_simp; all_goals (with_reducible rfl))); simp only [Act.put, List.setIfInBounds_toArray, List.set_cons_zero, List.set_cons_succ])
                      (refine wpAnyH_tk 9 (some 107) (v := ?_) rfl rfl ?_ ?_; rotate_left; (focus (intro wq hSw; have q1 := hS1 wq hSw; clear hSw; go_simp; all_goals (with_reducible rfl))); simp only [Act.put, List.setIfInBounds_toArray, List.set_cons_zero, List.set_cons_succ])
                      (refine wpAnyH_tk 10 (some 108) (v := ?_) rfl rfl ?_ ?_; rotate_left; (focus (intro wq hSw; clear hSw; go_simp; all_goals (with_reducible rfl))); simp only [Act.put, List.setIfInBounds_toArray, List.set_cons_zero, List.set_cons_succ])
                      (refine wpAnyH_tk 11 (some 109) (v := ?_) rfl rfl ?_ ?_; rotate_left; (focus (intro wq hSw; have q1 := hS2 wq hSw; clear hSw; go_simp; all_goals (with_reducible rfl))); simp only [Act.put, List.setIfInBounds_toArray, List.set_cons_zero, List.set_cons_succ])
                      (refine wpAnyH_tk 12 (some 110) (v := ?_) rfl rfl ?_ ?_; rotate_left; (focus (intro wq hSw; clear hSw; go_simp; all_goals (with_reducible rfl))); simp only [Act.put, List.setIfInBounds_toArray, List.set_cons_zero, List.set_cons_succ])
                      (refine wpAnyH_tk 13 (some 111) (v := ?_) rfl rfl ?_ ?_; rotate_left; (focus (intro wq hSw; clear hSw; go_simp; all_goals (with_reducible rfl))); simp only [Act.put, List.setIfInBounds_toArray, List.set_cons_zero, List.set_cons_succ])
                      (refine wpAnyH_tk 14 (some 112) (v := ?_) rfl rfl ?_ ?_; rotate_left; (focus (intro wq hSw; clear hSw; go_simp; all_goals (with_reducible rfl))); simp only [Act.put, List.setIfInBounds_toArray, List.set_cons_zero, List.set_cons_succ])
                      (refine wpAnyH_tk 15 (some 113) (v := ?_) rfl rfl ?_ ?_; rotate_left; (focus (intro wq hSw; have q1 := hS3 wq hSw; clear hSw; go_simp; all_goals (with_reducible rfl))); simp only [Act.put, List.setIfInBounds_toArray, List.set_cons_zero, List.set_cons_succ])
                      (refine wpAnyH_tk 16 (some 114) (v := ?_) rfl rfl ?_ ?_; rotate_left; (focus (intro wq hSw; clear hSw; go_simp; all_goals (with_reducible rfl))); simp only [Act.put, List.setIfInBounds_toArray, List.set_cons_zero, List.set_cons_succ])
                      (refine wpAnyH_tk 17 (some 115) (v := ?_) rfl rfl ?_ ?_; rotate_left; (focus (intro wq hSw; clear hSw; go_simp; all_goals (with_reducible rfl))); simp only [Act.put, List.setIfInBounds_toArray, List.set_cons_zero, List.set_cons_succ])
                      (refine wpAnyH_tk 18 (some 116) (v := ?_) rfl rfl ?_ ?_; rotate_left; (focus (intro wq hSw; clear hSw; go_simp; all_goals (with_reducible rfl))); simp only [Act.put, List.setIfInBounds_toArray, List.set_cons_zero, List.set_cons_succ])
                      (refine wpAnyH_tk 19 (some 117) (v := ?_) rfl rfl ?_ ?_; rotate_left; (focus (intro wq hSw; have q1 := hS4 wq hSw; clear hSw; go_simp; all_goals (with_reducible rfl))); simp only [Act.put, List.setIfInBounds_toArray, List.set_cons_zero, List.set_cons_succ])
                      (refine wpAnyH_tk 20 (some 118) (v := ?_) rfl rfl ?_ ?_; rotate_left; (focus (intro wq hSw; clear hSw; go_simp; all_goals (with_reducible rfl))); simp only [Act.put, List.setIfInBounds_toArray, List.set_cons_zero, List.set_cons_succ])
                      (refine wpAnyH_tk 21 (some 119) (v := ?_) rfl rfl ?_ ?_; rotate_left; (focus (intro wq hSw; clear hSw; go_simp; all_goals (with_reducible rfl))); simp only [Act.put, List.setIfInBounds_toArray, List.set_cons_zero, List.set_cons_succ])
                      refine wpAnyH_done (by kernel_rfl) ?_ _
                      clear hHeld hS1 hS2 hS3 hS4
                      have hb8b := bel_trans hb8 hbd
                      clear hb8 hbd ZS
                      go_wp2_with fail
                      (first | (go_round; (case rel => exact ⟨j + 1, hd2, vs, _, hn, hc, by omega, by go_num, rfl, Lib.hid (HH2.out.up hb8b), HL2, by omega, HG2, bel_trans hb6 hb8b⟩); (case measure => (simp [intOf] <;> omega))) | (go_roundw; (case rel => exact ⟨j + 1, hd2, vs, _, hn, hc, by omega, by go_num, rfl, Lib.hid (HH2.out.up hb8b), HL2, by omega, HG2, bel_trans hb6 hb8b⟩); (case measure => (simp [intOf] <;> omega))) | (refine ⟨?_, by simp [intOf] <;> omega⟩; (repeat apply Exists.intro); refine ⟨?rel, ?fr⟩; (case fr => ((repeat' apply And.intro) <;> rfl)); (case rel => exact ⟨j + 1, hd2, vs, _, hn, hc, by omega, by go_num, rfl, Lib.hid (HH2.out.up hb8b), HL2, by omega, HG2, bel_trans hb6 hb8b⟩)))
                    · have q3 : (zd == xd) = false := by simp [hze]
                      have HKF : Hid (khasH hd2 xd = false) := Lib.hid (by (cases e : khasH hd2 xd; rfl; exact absurd ((khasH_at HCT.out).1 e).2 (by rw [HZD.out]; exact hze)))
                      go_upto_region 16 with fail
                      obtain ⟨S, hSd⟩ : ∃ S : World → Prop, S = fun Q => Q.cell? ⟨hg9, at9 * 4, none⟩ = some (.int .i64 zd) ∧ Q.cell? ⟨w.heap.size, 4, none⟩ = some (.slice (some ⟨ab, aoff, none⟩) ln lc) ∧ Q.cell? ⟨ab, aoff + k * 3 + 2, none⟩ = some (.slice (some ⟨cb, co, none⟩) k5 e5) ∧ Q.cell? ⟨cb, co + j * 4, none⟩ = some (.int .i64 xd) := ⟨_, rfl⟩
                      have hS1 : ∀ Q, S Q → Q.cell? ⟨hg9, at9 * 4, none⟩ = some (.int .i64 zd) := fun Q h => by rw [hSd] at h; exact h.1
                      have hS2 : ∀ Q, S Q → Q.cell? ⟨w.heap.size, 4, none⟩ = some (.slice (some ⟨ab, aoff, none⟩) ln lc) := fun Q h => by rw [hSd] at h; exact h.2.1
                      have hS3 : ∀ Q, S Q → Q.cell? ⟨ab, aoff + k * 3 + 2, none⟩ = some (.slice (some ⟨cb, co, none⟩) k5 e5) := fun Q h => by rw [hSd] at h; exact h.2.2.1
                      have hS4 : ∀ Q, S Q → Q.cell? ⟨cb, co + j * 4, none⟩ = some (.int .i64 xd) := fun Q h => by rw [hSd] at h; exact h.2.2.2
                      have hbd : Below Z.heap.size Z Z.drew := bel_drew (Below.refl _ _)
                      have hS0 : S Z.drew := by rw [hSd]; exact ⟨(hbd.cell (p := ⟨hg9, at9 * 4, none⟩) hg9Z).trans hgc, (ZS.up hbd).2 4 _ rfl, ((bel_trans hbwZ hbd).cell (p := ⟨ab, aoff + k * 3 + 2, none⟩) hab).trans HF12.out.2, ((bel_trans hbwZ hbd).cell (p := ⟨cb, co + j * 4, none⟩) hcb).trans hxc⟩
                      clear hSd
                      refine wp_region_held_drew (S := S) (by kernel_rfl) hS0 (fun hHeld => ?_)
                      clear hS0
                      generalize Z.drew = Z2 at *
                      (refine wpAnyH_tk 0 (some 98) (v := ?_) rfl rfl ?_ ?_; rotate_left; (focus (intro wq hSw; clear hSw; go_simp; all_goals (with_reducible rfl))); simp only [Act.put, List.setIfInBounds_toArray, List.set_cons_zero, List.set_cons_succ])
                      (refine wpAnyH_tk 1 (some 99) (v := ?_) rfl rfl ?_ ?_; rotate_left; (focus (intro wq hSw; clear hSw; go_simp; all_goals (with_reducible rfl))); simp only [Act.put, List.setIfInBounds_toArray, List.set_cons_zero, List.set_cons_succ])
                      (refine wpAnyH_tk 2 (some 100) (v := ?_) rfl rfl ?_ ?_; rotate_left; (focus (intro wq hSw; clear hSw; go_simp; all_goals (with_reducible rfl))); simp only [Act.put, List.setIfInBounds_toArray, List.set_cons_zero, List.set_cons_succ])
                      (refine wpAnyH_tk 3 (some 101) (v := ?_) rfl rfl ?_ ?_; rotate_left; (focus (intro wq hSw; clear hSw; go_simp; all_goals (with_reducible rfl))); simp only [Act.put, List.setIfInBounds_toArray, List.set_cons_zero, List.set_cons_succ])
                      (refine wpAnyH_tk 4 (some 102) (v := ?_) rfl rfl ?_ ?_; rotate_left; (focus (intro wq hSw; clear hSw; go_simp; all_goals (with_reducible rfl))); simp only [Act.put, List.setIfInBounds_toArray, List.set_cons_zero, List.set_cons_succ])
                      (refine wpAnyH_tk 5 (some 103) (v := ?_) rfl rfl ?_ ?_; rotate_left; (focus (intro wq hSw; clear hSw; go_simp; all_goals (with_reducible rfl))); simp only [Act.put, List.setIfInBounds_toArray, List.set_cons_zero, List.set_cons_succ])
                      (refine wpAnyH_tk 6 (some 104) (v := ?_) rfl rfl ?_ ?_; rotate_left; (focus (intro wq hSw; clear hSw; go_simp; all_goals (with_reducible rfl))); simp only [Act.put, List.setIfInBounds_toArray, List.set_cons_zero, List.set_cons_succ])
                      (refine wpAnyH_tk 7 (some 105) (v := ?_) rfl rfl ?_ ?_; rotate_left; (focus (intro wq hSw; clear hSw; go_simp; all_goals (with_reducible rfl))); simp only [Act.put, List.setIfInBounds_toArray, List.set_cons_zero, List.set_cons_succ])
                      (refine wpAnyH_tk 8 (some 106) (v := ?_) rfl rfl ?_ ?_; rotate_left; (focus (intro wq hSw; clear hSw; go_simp; all_goals (with_reducible rfl))); simp only [Act.put, List.setIfInBounds_toArray, List.set_cons_zero, List.set_cons_succ])
                      (refine wpAnyH_tk 9 (some 107) (v := ?_) rfl rfl ?_ ?_; rotate_left; (focus (intro wq hSw; have q1 := hS1 wq hSw; clear hSw; go_simp; all_goals (with_reducible rfl))); simp only [Act.put, List.setIfInBounds_toArray, List.set_cons_zero, List.set_cons_succ])
                      (refine wpAnyH_tk 10 (some 108) (v := ?_) rfl rfl ?_ ?_; rotate_left; (focus (intro wq hSw; clear hSw; go_simp; all_goals (with_reducible rfl))); simp only [Act.put, List.setIfInBounds_toArray, List.set_cons_zero, List.set_cons_succ])
                      (refine wpAnyH_tk 11 (some 109) (v := ?_) rfl rfl ?_ ?_; rotate_left; (focus (intro wq hSw; have q1 := hS2 wq hSw; clear hSw; go_simp; all_goals (with_reducible rfl))); simp only [Act.put, List.setIfInBounds_toArray, List.set_cons_zero, List.set_cons_succ])
                      (refine wpAnyH_tk 12 (some 110) (v := ?_) rfl rfl ?_ ?_; rotate_left; (focus (intro wq hSw; clear hSw; go_simp; all_goals (with_reducible rfl))); simp only [Act.put, List.setIfInBounds_toArray, List.set_cons_zero, List.set_cons_succ])
                      (refine wpAnyH_tk 13 (some 111) (v := ?_) rfl rfl ?_ ?_; rotate_left; (focus (intro wq hSw; clear hSw; go_simp; all_goals (with_reducible rfl))); simp only [Act.put, List.setIfInBounds_toArray, List.set_cons_zero, List.set_cons_succ])
                      (refine wpAnyH_tk 14 (some 112) (v := ?_) rfl rfl ?_ ?_; rotate_left; (focus (intro wq hSw; clear hSw; go_simp; all_goals (with_reducible rfl))); simp only [Act.put, List.setIfInBounds_toArray, List.set_cons_zero, List.set_cons_succ])
                      (refine wpAnyH_tk 15 (some 113) (v := ?_) rfl rfl ?_ ?_; rotate_left; (focus (intro wq hSw; have q1 := hS3 wq hSw; clear hSw; go_simp; all_goals (with_reducible rfl))); simp only [Act.put, List.setIfInBounds_toArray, List.set_cons_zero, List.set_cons_succ])
                      (refine wpAnyH_tk 16 (some 114) (v := ?_) rfl rfl ?_ ?_; rotate_left; (focus (intro wq hSw; clear hSw; go_simp; all_goals (with_reducible rfl))); simp only [Act.put, List.setIfInBounds_toArray, List.set_cons_zero, List.set_cons_succ])
                      (refine wpAnyH_tk 17 (some 115) (v := ?_) rfl rfl ?_ ?_; rotate_left; (focus (intro wq hSw; clear hSw; go_simp; all_goals (with_reducible rfl))); simp only [Act.put, List.setIfInBounds_toArray, List.set_cons_zero, List.set_cons_succ])
                      (refine wpAnyH_tk 18 (some 116) (v := ?_) rfl rfl ?_ ?_; rotate_left; (focus (intro wq hSw; clear hSw; go_simp; all_goals (with_reducible rfl))); simp only [Act.put, List.setIfInBounds_toArray, List.set_cons_zero, List.set_cons_succ])
                      (refine wpAnyH_tk 19 (some 117) (v := ?_) rfl rfl ?_ ?_; rotate_left; (focus (intro wq hSw; have q1 := hS4 wq hSw; clear hSw; go_simp; all_goals (with_reducible rfl))); simp only [Act.put, List.setIfInBounds_toArray, List.set_cons_zero, List.set_cons_succ])
                      (refine wpAnyH_tk 20 (some 118) (v := ?_) rfl rfl ?_ ?_; rotate_left; (focus (intro wq hSw; clear hSw; go_simp; all_goals (with_reducible rfl))); simp only [Act.put, List.setIfInBounds_toArray, List.set_cons_zero, List.set_cons_succ])
                      (refine wpAnyH_tk 21 (some 119) (v := ?_) rfl rfl ?_ ?_; rotate_left; (focus (intro wq hSw; clear hSw; go_simp; all_goals (with_reducible rfl))); simp only [Act.put, List.setIfInBounds_toArray, List.set_cons_zero, List.set_cons_succ])
                      refine wpAnyH_done (by kernel_rfl) ?_ _
                      clear hHeld hS1 hS2 hS3 hS4
                      have hb8b := bel_trans hb8 hbd
                      clear hb8 hbd ZS q3 q2 hgc hg9Z
                      go_upto_region 17 with fail
                      obtain ⟨V, hV⟩ : ∃ V, V = Z2 := ⟨_, rfl⟩
                      subst hV
                      have hb6V := hb8b
                      have hbwV := bel_trans hbw6 hb6V
                      have HHV := Lib.hid (HH2.out.up hb6V)
                      have HBV := Lib.hid (HB6.out.up hb6V)
                      clear hb8b
                      have hnat : at9 ≤ hn := by have h1 := HCT.out.le; rw [HL2.out] at h1; exact h1
                      obtain ⟨rA, rc, eR, hRd, hrc, hRv⟩ := HHV.out.read (by rw [HL2.out]; omega)
                      rw [HL2.out] at eR hRd hrc hRv
                      injection eR with eR1 eR2 eR3
                      subst eR1
                      subst eR3
                      clear eR2
                      have HRD := Lib.hid hRd
                      have HRV := Lib.hid hRv
                      clear hRd hRv
                      have hBT : BigH (hd2.take at9) := (BigH_of HG2.out.2 (by rw [HL2.out]; omega)).take _
                      have HBT := Lib.hid hBT
                      clear hBT
                      have hla : at9 ≤ hc := by omega
                      have hlai : (at9 : Int) ≤ (hc : Int) := by omega
                      have hla0 : (0 : Int) ≤ (at9 : Int) := by omega
                      have hlan : (at9 : Int) ≤ (hn : Int) := by omega
                      have hob : ∀ g, ((Value.slice aA an ac).ownBlock = some g ∨ g = gx) → g < V.heap.size := fun g e => Nat.lt_of_lt_of_le (e.elim (fun e => (own_lt HAL5.out g e).2) (fun e => by rw [e]; exact HX5.out.lt)) (Nat.le_trans hb6.size hb6V.size)
                      have HOB := Lib.hid hob
                      clear hob
                      obtain ⟨S, hSd⟩ : ∃ S : World → Prop, S = fun Q => Q.cell? ⟨w.heap.size, 4, none⟩ = some (.slice (some ⟨ab, aoff, none⟩) ln lc) ∧ Q.cell? ⟨ab, aoff + k * 3 + 2, none⟩ = some (.slice (some ⟨cb, co, none⟩) k5 e5) ∧ Q.rangeAt cb (co + j * 4) [.int .i64 x.di, .int .i64 x.b.au, .int .i64 x.b.n, .slice X xn xc] := ⟨_, rfl⟩
                      have hS1 : ∀ Q, S Q → Q.cell? ⟨w.heap.size, 4, none⟩ = some (.slice (some ⟨ab, aoff, none⟩) ln lc) := fun Q h => by rw [hSd] at h; exact h.1
                      have hS2 : ∀ Q, S Q → Q.cell? ⟨ab, aoff + k * 3 + 2, none⟩ = some (.slice (some ⟨cb, co, none⟩) k5 e5) := fun Q h => by rw [hSd] at h; exact h.2.1
                      have hS3 : ∀ Q, S Q → Q.rangeAt cb (co + j * 4) [.int .i64 x.di, .int .i64 x.b.au, .int .i64 x.b.n, .slice X xn xc] := fun Q h => by rw [hSd] at h; exact h.2.2
                      have hS : ∀ Q, Below V.heap.size V Q → S Q := fun Q hQ => by
                        have hq := bel_trans hbwV hQ
                        rw [hSd]
                        refine ⟨(HBV.out.up hQ).2 4 _ rfl, (hq.cell (p := ⟨ab, aoff + k * 3 + 2, none⟩) hab).trans HF12.out.2, fun r u hu => ?_⟩
                        have hr4 : r < 4 := (List.getElem?_eq_some_iff.1 hu).1
                        match r, hr4, hu with
                        | 0, _, hu => injection hu with hu; subst hu; exact (hq.cell (p := ⟨cb, co + j * 4, none⟩) hcb).trans HXC.out.1
                        | 1, _, hu => injection hu with hu; subst hu; exact (hq.cell (p := ⟨cb, co + j * 4 + 1, none⟩) hcb).trans HXC.out.2.1
                        | 2, _, hu => injection hu with hu; subst hu; exact (hq.cell (p := ⟨cb, co + j * 4 + 2, none⟩) hcb).trans HXC.out.2.2.1
                        | 3, _, hu => injection hu with hu; subst hu; exact (hq.cell (p := ⟨cb, co + j * 4 + 3, none⟩) hcb).trans HXC.out.2.2.2
                      clear hSd
                      go_cut [9] from 120 to 134 (fun s9 wx => ∃ (A7 : Option Addr) (c7 : Nat) (qs : List Value), s9 = .slice A7 (at9 + 1) c7 ∧ Hid (qs.length = at9) ∧ Hid (∀ i, i < at9 → OwnX wx V.heap.size (qs.getD i default) (hth hd2 i).b.tx) ∧ Hid (wx.ownsRow V.heap.size 44 4 (.slice A7 (at9 + 1) c7) (at9 + 1) (dcells dHeld (hd2.take at9) qs ++ dHeld.enc x (.slice X xn xc))) ∧ Below V.heap.size V wx)
                      case first =>
                        refine wp_region_held_drew (S := S) (by kernel_rfl) (hS _ (bel_drew (Below.refl _ _))) (fun hHeld => ?_)
                        have hbd : Below V.heap.size V V.drew := bel_drew (Below.refl _ _)
                        generalize V.drew = Z3 at *
                        (refine wpAnyH_tk 0 (some 120) (v := ?_) rfl rfl ?_ ?_; rotate_left; (focus (intro wq hSw; clear hSw; go_simp; all_goals (with_reducible rfl))); simp only [Act.put, List.setIfInBounds_toArray, List.set_cons_zero, List.set_cons_succ])
                        (refine wpAnyH_tk 1 (some 121) (v := ?_) rfl rfl ?_ ?_; rotate_left; (focus (intro wq hSw; clear hSw; go_simp; all_goals (with_reducible rfl))); simp only [Act.put, List.setIfInBounds_toArray, List.set_cons_zero, List.set_cons_succ])
                        (refine wpAnyH_tk 2 (some 122) (v := ?_) rfl rfl ?_ ?_; rotate_left; (focus (intro wq hSw; clear hSw; go_simp; all_goals (with_reducible rfl))); simp only [Act.put, List.setIfInBounds_toArray, List.set_cons_zero, List.set_cons_succ])
                        (refine wpAnyH_tk 4 (some 124) (v := ?_) rfl rfl ?_ ?_; rotate_left; (focus (intro wq hSw; clear hSw; go_simp; all_goals (with_reducible rfl))); simp only [Act.put, List.setIfInBounds_toArray, List.set_cons_zero, List.set_cons_succ])
                        (refine wpAnyH_tk 5 (some 125) (v := ?_) rfl rfl ?_ ?_; rotate_left; (focus (intro wq hSw; have q1 := hS1 wq hSw; clear hSw; go_simp; all_goals (with_reducible rfl))); simp only [Act.put, List.setIfInBounds_toArray, List.set_cons_zero, List.set_cons_succ])
                        (refine wpAnyH_tk 6 (some 126) (v := ?_) rfl rfl ?_ ?_; rotate_left; (focus (intro wq hSw; clear hSw; go_simp; all_goals (with_reducible rfl))); simp only [Act.put, List.setIfInBounds_toArray, List.set_cons_zero, List.set_cons_succ])
                        (refine wpAnyH_tk 7 (some 127) (v := ?_) rfl rfl ?_ ?_; rotate_left; (focus (intro wq hSw; clear hSw; go_simp; all_goals (with_reducible rfl))); simp only [Act.put, List.setIfInBounds_toArray, List.set_cons_zero, List.set_cons_succ])
                        (refine wpAnyH_tk 8 (some 128) (v := ?_) rfl rfl ?_ ?_; rotate_left; (focus (intro wq hSw; clear hSw; go_simp; all_goals (with_reducible rfl))); simp only [Act.put, List.setIfInBounds_toArray, List.set_cons_zero, List.set_cons_succ])
                        (refine wpAnyH_tk 9 (some 129) (v := ?_) rfl rfl ?_ ?_; rotate_left; (focus (intro wq hSw; have q1 := hS2 wq hSw; clear hSw; go_simp; all_goals (with_reducible rfl))); simp only [Act.put, List.setIfInBounds_toArray, List.set_cons_zero, List.set_cons_succ])
                        (refine wpAnyH_tk 10 (some 130) (v := ?_) rfl rfl ?_ ?_; rotate_left; (focus (intro wq hSw; clear hSw; go_simp; all_goals (with_reducible rfl))); simp only [Act.put, List.setIfInBounds_toArray, List.set_cons_zero, List.set_cons_succ])
                        (refine wpAnyH_tk 11 (some 131) (v := ?_) rfl rfl ?_ ?_; rotate_left; (focus (intro wq hSw; clear hSw; go_simp; all_goals (with_reducible rfl))); simp only [Act.put, List.setIfInBounds_toArray, List.set_cons_zero, List.set_cons_succ])
                        refine wpAnyH_takeD (i := 12) (d := (some 132)) (v := .agg ([.int .i64 x.di, .int .i64 x.b.au, .int .i64 x.b.n, .slice X xn xc]).toArray) rfl rfl (by kernel_rfl) (by kernel_rfl) (by kernel_rfl) (fun _ _ _ h => h) (yieldsIf_load_mid (by rfl) 44 _ rfl cb (co + j * 4) (by simp [Act.eval, Act.put]) ([.int .i64 x.di, .int .i64 x.b.au, .int .i64 x.b.n, .slice X xn xc]) _ (hS3) Try.underlying44 (by rfl) (by kernel_rfl)) (by assumption) ?_
                        simp only [Act.put, List.setIfInBounds_toArray, List.set_cons_zero, List.set_cons_succ]
                        refine wpAnyH_ready (rs := [3, 13]) (by kernel_rfl) (by simp) ?_
                        refine AllReadyH.cons (o := _) rfl (fun K hK => ?_) (AllReadyH.cons (o := _) rfl (fun K hK => ?_) AllReadyH.nil)
                        · skip
                          go_simp
                          (go_at_call 9; refine (ref0_CopyHelds _ at9 _ (hd2.take at9) _ ((HRD.out.up (hbd)).takeN hnat) HBT.out).mono ?_; rintro e w9 ⟨v9, rfl, ho9, hb9⟩)
                          obtain ⟨qs, hT9⟩ := ho9
                          have hlB := (hbd).size
                          have hbb9 := bel_trans (hbd) hb9
                          refine hK.out _ _ (hS _ hbb9) (fun hHeld => ?_)
                          clear hK K
                          (try simp only [Act.put, List.setIfInBounds_toArray, List.set_cons_zero, List.set_cons_succ])
                          refine wpAnyH_ready (rs := [13]) (by kernel_rfl) (by simp) ?_
                          refine AllReadyH.cons (o := _) rfl (fun K hK => ?_) AllReadyH.nil
                          go_simp
                          obtain ⟨g4, hg4⟩ : ∃ g, g = w9.heap.size := ⟨_, rfl⟩
                          obtain ⟨ZB, hZB⟩ : ∃ Zq : World, Zq = w9.alloc (.cells #[.int .i64 x.di, .int .i64 x.b.au, .int .i64 x.b.n, .slice X xn xc] 44) := ⟨_, rfl⟩
                          rw [← hg4, ← hZB]
                          have hza : Blk ZB g4 44 [.int .i64 x.di, .int .i64 x.b.au, .int .i64 x.b.n, .slice X xn xc] := by rw [hZB, hg4]; exact Blk.new _ 44 [.int .i64 x.di, .int .i64 x.b.au, .int .i64 x.b.n, .slice X xn xc]
                          have hbz : Below w9.heap.size w9 ZB := by rw [hZB]; exact bel_alloc (Below.refl _ _)
                          have hbbz := bel_trans (hbb9) hbz
                          clear hg4 hZB
                          have hT9 := hT9.up hbz
                          refine hK.out _ _ (hS _ hbbz) (fun hHeld => ?_)
                          clear hK K
                          (try simp only [Act.put, List.setIfInBounds_toArray, List.set_cons_zero, List.set_cons_succ])
                          refine wpAnyH_ready (rs := [14]) (by kernel_rfl) (by simp) ?_
                          refine AllReadyH.cons (o := _) rfl (fun K hK => ?_) AllReadyH.nil
                          have hrow9 : ZB.ownsRow V.heap.size 44 4 v9 at9 (dcells dHeld (hd2.take at9) qs) := by have h9 := hT9.1; rw [List.length_take, HL2.out, Nat.min_eq_left hnat] at h9; exact own_mono h9 hlB
                          refine step_appRow_Held rfl (.tmp 123) (.tmp 133) rfl rfl V.heap.size v9 at9 _ (by simp [Act.eval, Act.put]) hrow9 (some ⟨g4, 0, none⟩) 1 1 [.int .i64 x.di, .int .i64 x.b.au, .int .i64 x.b.n, .slice X xn xc] (by simp [Act.eval, Act.put]) ⟨rfl, by omega, fun _ => ⟨g4, 0, rfl, hza.lt, fun r u hu => by rw [Nat.zero_add]; exact hza.box.2 r u hu⟩⟩ (by simp [Value.oneCell']) (by omega) (hbbz).size ?_
                          intro v10 w10 hown10 hg10 hb10
                          obtain ⟨A7, c7, rfl, -, -, -, -⟩ := own_row hown10 (by omega)
                          have hbb10 := Below.trans (hbbz) hb10
                          show K (Act.put _ (some 134) _) _
                          refine hK.out _ _ (hS _ hbb10) (fun hHeld => ?_)
                          clear hK K
                          (try simp only [Act.put, List.setIfInBounds_toArray, List.set_cons_zero, List.set_cons_succ])
                          (refine wpAnyH_tk 15 (some 9) (v := ?_) rfl rfl ?_ ?_; rotate_left; (focus (intro wq hSw; clear hSw; go_simp; all_goals (with_reducible rfl))); simp only [Act.put, List.setIfInBounds_toArray, List.set_cons_zero, List.set_cons_succ])
                          refine wpAnyH_done (by kernel_rfl) ?_ _
                          go_wp2_with fail
                          go_meet
                          refine ⟨A7, c7, qs, rfl, Lib.hid (by have h9 := hT9.2.1; rw [List.length_take, HL2.out, Nat.min_eq_left hnat] at h9; exact h9), Lib.hid (fun i hi => ?_), Lib.hid hown10, hbb10⟩
                          have h1 : OwnX _ _ (qs.getD i default) ((hd2.take at9).getD i default).b.tx := hT9.2.2 i (by rw [List.length_take, HL2.out, Nat.min_eq_left hnat]; exact hi)
                          rw [show (hd2.take at9).getD i default = hd2.getD i default by simp [hi]] at h1
                          exact OwnX.mono (own_farT h1 hrow9 (by decide) hg10) hlB
                        · skip
                          go_simp
                          obtain ⟨g4, hg4⟩ : ∃ g, g = Z3.heap.size := ⟨_, rfl⟩
                          obtain ⟨ZB, hZB⟩ : ∃ Zq : World, Zq = Z3.alloc (.cells #[.int .i64 x.di, .int .i64 x.b.au, .int .i64 x.b.n, .slice X xn xc] 44) := ⟨_, rfl⟩
                          rw [← hg4, ← hZB]
                          have hza : Blk ZB g4 44 [.int .i64 x.di, .int .i64 x.b.au, .int .i64 x.b.n, .slice X xn xc] := by rw [hZB, hg4]; exact Blk.new _ 44 [.int .i64 x.di, .int .i64 x.b.au, .int .i64 x.b.n, .slice X xn xc]
                          have hbz : Below Z3.heap.size Z3 ZB := by rw [hZB]; exact bel_alloc (Below.refl _ _)
                          have hbbz := bel_trans (hbd) hbz
                          clear hg4 hZB
                          refine hK.out _ _ (hS _ hbbz) (fun hHeld => ?_)
                          clear hK K
                          (try simp only [Act.put, List.setIfInBounds_toArray, List.set_cons_zero, List.set_cons_succ])
                          refine wpAnyH_ready (rs := [3]) (by kernel_rfl) (by simp) ?_
                          refine AllReadyH.cons (o := _) rfl (fun K hK => ?_) AllReadyH.nil
                          go_simp
                          (go_at_call 9; refine (ref0_CopyHelds _ at9 _ (hd2.take at9) _ ((HRD.out.up (hbbz)).takeN hnat) HBT.out).mono ?_; rintro e w9 ⟨v9, rfl, ho9, hb9⟩)
                          obtain ⟨qs, hT9⟩ := ho9
                          have hlB := (hbbz).size
                          have hbb9 := bel_trans (hbbz) hb9
                          have hz9 := hza.up hb9
                          refine hK.out _ _ (hS _ hbb9) (fun hHeld => ?_)
                          clear hK K
                          (try simp only [Act.put, List.setIfInBounds_toArray, List.set_cons_zero, List.set_cons_succ])
                          refine wpAnyH_ready (rs := [14]) (by kernel_rfl) (by simp) ?_
                          refine AllReadyH.cons (o := _) rfl (fun K hK => ?_) AllReadyH.nil
                          have hrow9 : w9.ownsRow V.heap.size 44 4 v9 at9 (dcells dHeld (hd2.take at9) qs) := by have h9 := hT9.1; rw [List.length_take, HL2.out, Nat.min_eq_left hnat] at h9; exact own_mono h9 hlB
                          refine step_appRow_Held rfl (.tmp 123) (.tmp 133) rfl rfl V.heap.size v9 at9 _ (by simp [Act.eval, Act.put]) hrow9 (some ⟨g4, 0, none⟩) 1 1 [.int .i64 x.di, .int .i64 x.b.au, .int .i64 x.b.n, .slice X xn xc] (by simp [Act.eval, Act.put]) ⟨rfl, by omega, fun _ => ⟨g4, 0, rfl, hz9.lt, fun r u hu => by rw [Nat.zero_add]; exact hz9.box.2 r u hu⟩⟩ (by simp [Value.oneCell']) (by omega) (hbb9).size ?_
                          intro v10 w10 hown10 hg10 hb10
                          obtain ⟨A7, c7, rfl, -, -, -, -⟩ := own_row hown10 (by omega)
                          have hbb10 := Below.trans (hbb9) hb10
                          show K (Act.put _ (some 134) _) _
                          refine hK.out _ _ (hS _ hbb10) (fun hHeld => ?_)
                          clear hK K
                          (try simp only [Act.put, List.setIfInBounds_toArray, List.set_cons_zero, List.set_cons_succ])
                          (refine wpAnyH_tk 15 (some 9) (v := ?_) rfl rfl ?_ ?_; rotate_left; (focus (intro wq hSw; clear hSw; go_simp; all_goals (with_reducible rfl))); simp only [Act.put, List.setIfInBounds_toArray, List.set_cons_zero, List.set_cons_succ])
                          refine wpAnyH_done (by kernel_rfl) ?_ _
                          go_wp2_with fail
                          go_meet
                          refine ⟨A7, c7, qs, rfl, Lib.hid (by have h9 := hT9.2.1; rw [List.length_take, HL2.out, Nat.min_eq_left hnat] at h9; exact h9), Lib.hid (fun i hi => ?_), Lib.hid hown10, hbb10⟩
                          have h1 : OwnX _ _ (qs.getD i default) ((hd2.take at9).getD i default).b.tx := hT9.2.2 i (by rw [List.length_take, HL2.out, Nat.min_eq_left hnat]; exact hi)
                          rw [show (hd2.take at9).getD i default = hd2.getD i default by simp [hi]] at h1
                          exact OwnX.mono (own_farT h1 hrow9 (by decide) hg10) hlB
                      case rest =>
                      obtain ⟨A7, c7, qs, rfl, HQL, HQT, HO7, hb7V⟩ := hcut
                      obtain ⟨V1, hV1⟩ : ∃ x, x = wc := ⟨_, rfl⟩
                      subst hV1
                      clear hS hS1 hS2 hS3
                      have hce2 : ¬ at9 = hc := by omega
                      have hdo : ∀ u ∈ dcells dHeld hd2 vs, u.oneCell' = true := HHV.out.one
                      have HDO := Lib.hid hdo
                      clear hdo
                      have HRVW := Lib.hid (HRV.out.up hb7V)
                      go_wp2_with (at_builtin; refine wpList_appRow_Held rfl (.tmp 135) (.tmp 138) rfl rfl V.heap.size (.slice A7 (at9 + 1) c7) (at9 + 1) _ rfl HO7.out _ (hn - at9) _ ((dcells dHeld hd2 vs).drop (at9 * 4)) rfl (by first | exact HRVW.out.dropK hnat | (rw [show hn - at9 = 0 by omega, List.drop_of_length_le (by rw [HRV.out.1]; omega)]; exact RowV.nilA _ _)) (fun u hu => HDO.out u (List.mem_of_mem_drop hu)) (by omega) hb7V.size ?_; intro v9 W9 hown9 hg9w hb9; rw [show at9 + 1 + (hn - at9) = hn + 1 by omega] at hown9; (obtain ⟨A9, c9, e9, -, -, -, -⟩ := own_row hown9 (by omega)); subst e9)
                      have hbV9 : Below V.heap.size V W9 := Below.trans hb7V hb9
                      have hb59 := bel_trans (bel_trans hb6 hb6V) hbV9
                      have hH9 := HeldO.ins (x := x) (X := X) (xn := xn) (xc := xc) HHV.out (lo := at9) (by rw [HL2.out]; exact hnat) HQL.out (fun i hi => OwnX.farO (own_farT (HQT.out i hi) HO7.out (by decide) hg9w) (by have h2 := (BigH_of HG2.out.2 (by rw [HL2.out]; omega)).2 (hth hd2 i) (getD_mem (by rw [HL2.out]; omega)); omega) HOB.out) (HXT.out.up (bel_trans hbwV hbV9)) (HXT.out.low (fun g e => e.elim (fun e => Nat.le_of_lt (own_lt HAL5.out g e).1) (fun e => by rw [e]; exact hgxw))) (fun A n t ht => ht.up hbV9) (by rw [show at9 + 1 + (hd2.length - at9) = hn + 1 by (have h9 := HL2.out); omega]; exact own_mono hown9 hbwV.size)
                      have hil : (insAt hd2 at9 x).length = hn + 1 := by rw [insAt_len (by rw [HL2.out]; exact hnat), HL2.out]
                      have hcx : CutX hd2 x.di at9 := by rw [HXD.out]; exact HCT.out
                      have hkx : khasH hd2 x.di = false := by rw [HXD.out]; exact HKF.out
                      have hgr9 : GrowH hd (insAt hd2 at9 x) := HG2.out.1.trans (GrowH.ins HG2.out.2.sorted hcx hkx)
                      have hm9 := HG2.out.2.insX hcx hkx HXK.out.1 HXK.out.2
                      (first | (go_round; (case rel => exact ⟨j + 1, insAt hd2 at9 x, qs ++ Value.slice X xn xc :: vs.drop at9, A9, hn + 1, c9, by omega, by go_num, rfl, Lib.hid hH9, Lib.hid hil, by omega, Lib.hid ⟨hgr9, hm9⟩, hb59⟩); (case measure => (simp [intOf] <;> omega))) | (go_roundw; (case rel => exact ⟨j + 1, insAt hd2 at9 x, qs ++ Value.slice X xn xc :: vs.drop at9, A9, hn + 1, c9, by omega, by go_num, rfl, Lib.hid hH9, Lib.hid hil, by omega, Lib.hid ⟨hgr9, hm9⟩, hb59⟩); (case measure => (simp [intOf] <;> omega))) | (refine ⟨?_, by simp [intOf] <;> omega⟩; (repeat apply Exists.intro); refine ⟨?rel, ?fr⟩; (case fr => ((repeat' apply And.intro) <;> rfl)); (case rel => exact ⟨j + 1, insAt hd2 at9 x, qs ++ Value.slice X xn xc :: vs.drop at9, A9, hn + 1, c9, by omega, by go_num, rfl, Lib.hid hH9, Lib.hid hil, by omega, Lib.hid ⟨hgr9, hm9⟩, hb59⟩)))
                · have q1 : decide ((at9 : Int) < (hn : Int)) = false := by simp; omega
                  go_upto_region 14 with fail
                  have hbd : Below w7.heap.size w7 w7.drew := bel_drew (Below.refl _ _)
                  refine wp_region_held_drew (S := fun _ => True) (by kernel_rfl) trivial (fun hHeld => ?_)
                  generalize w7.drew = Z at *
                  (refine wpAnyH_tk 0 (some 74) (v := ?_) rfl rfl ?_ ?_; rotate_left; (focus (intro wq hSw; clear hSw; go_simp; all_goals (with_reducible rfl))); simp only [Act.put, List.setIfInBounds_toArray, List.set_cons_zero, List.set_cons_succ])
                  (refine wpAnyH_tk 1 (some 75) (v := ?_) rfl rfl ?_ ?_; rotate_left; (focus (intro wq hSw; clear hSw; go_simp; all_goals (with_reducible rfl))); simp only [Act.put, List.setIfInBounds_toArray, List.set_cons_zero, List.set_cons_succ])
                  (refine wpAnyH_tk 2 (some 76) (v := ?_) rfl rfl ?_ ?_; rotate_left; (focus (intro wq hSw; clear hSw; go_simp; all_goals (with_reducible rfl))); simp only [Act.put, List.setIfInBounds_toArray, List.set_cons_zero, List.set_cons_succ])
                  (refine wpAnyH_tk 3 (some 77) (v := ?_) rfl rfl ?_ ?_; rotate_left; (focus (intro wq hSw; clear hSw; go_simp; all_goals (with_reducible rfl))); simp only [Act.put, List.setIfInBounds_toArray, List.set_cons_zero, List.set_cons_succ])
                  (refine wpAnyH_tk 4 (some 78) (v := ?_) rfl rfl ?_ ?_; rotate_left; (focus (intro wq hSw; clear hSw; go_simp; all_goals (with_reducible rfl))); simp only [Act.put, List.setIfInBounds_toArray, List.set_cons_zero, List.set_cons_succ])
                  refine wpAnyH_takeD (i := 5) (d := (some 79)) (v := undef) rfl rfl (by kernel_rfl) (by kernel_rfl) (by kernel_rfl) (fun _ _ _ h => h) (Or.inr ⟨by rfl, rfl⟩) (by assumption) ?_
                  simp only [Act.put, List.setIfInBounds_toArray, List.set_cons_zero, List.set_cons_succ]
                  refine wpAnyH_takeD (i := 6) (d := (some 80)) (v := undef) rfl rfl (by kernel_rfl) (by kernel_rfl) (by kernel_rfl) (fun _ _ _ h => h) (Or.inr ⟨by rfl, rfl⟩) (by assumption) ?_
                  simp only [Act.put, List.setIfInBounds_toArray, List.set_cons_zero, List.set_cons_succ]
                  refine wpAnyH_takeD (i := 7) (d := (some 81)) (v := undef) rfl rfl (by kernel_rfl) (by kernel_rfl) (by kernel_rfl) (fun _ _ _ h => h) (Or.inr ⟨by rfl, rfl⟩) (by assumption) ?_
                  simp only [Act.put, List.setIfInBounds_toArray, List.set_cons_zero, List.set_cons_succ]
                  refine wpAnyH_takeD (i := 8) (d := (some 82)) (v := undef) rfl rfl (by kernel_rfl) (by kernel_rfl) (by kernel_rfl) (fun _ _ _ h => h) (Or.inr ⟨by rfl, rfl⟩) (by assumption) ?_
                  simp only [Act.put, List.setIfInBounds_toArray, List.set_cons_zero, List.set_cons_succ]
                  refine wpAnyH_takeD (i := 9) (d := (some 83)) (v := undef) rfl rfl (by kernel_rfl) (by kernel_rfl) (by kernel_rfl) (fun _ _ _ h => h) (Or.inr ⟨by rfl, rfl⟩) (by assumption) ?_
                  simp only [Act.put, List.setIfInBounds_toArray, List.set_cons_zero, List.set_cons_succ]
                  refine wpAnyH_takeD (i := 10) (d := (some 84)) (v := undef) rfl rfl (by kernel_rfl) (by kernel_rfl) (by kernel_rfl) (fun _ _ _ h => h) (Or.inr ⟨by rfl, rfl⟩) (by assumption) ?_
                  simp only [Act.put, List.setIfInBounds_toArray, List.set_cons_zero, List.set_cons_succ]
                  refine wpAnyH_takeD (i := 11) (d := (some 85)) (v := undef) rfl rfl (by kernel_rfl) (by kernel_rfl) (by kernel_rfl) (fun _ _ _ h => h) (Or.inr ⟨by rfl, rfl⟩) (by assumption) ?_
                  simp only [Act.put, List.setIfInBounds_toArray, List.set_cons_zero, List.set_cons_succ]
                  refine wpAnyH_takeD (i := 12) (d := (some 86)) (v := undef) rfl rfl (by kernel_rfl) (by kernel_rfl) (by kernel_rfl) (fun _ _ _ h => h) (Or.inr ⟨by rfl, rfl⟩) (by assumption) ?_
                  simp only [Act.put, List.setIfInBounds_toArray, List.set_cons_zero, List.set_cons_succ]
                  refine wpAnyH_takeD (i := 13) (d := (some 87)) (v := undef) rfl rfl (by kernel_rfl) (by kernel_rfl) (by kernel_rfl) (fun _ _ _ h => h) (Or.inr ⟨by rfl, rfl⟩) (by assumption) ?_
                  simp only [Act.put, List.setIfInBounds_toArray, List.set_cons_zero, List.set_cons_succ]
                  refine wpAnyH_takeD (i := 14) (d := (some 88)) (v := undef) rfl rfl (by kernel_rfl) (by kernel_rfl) (by kernel_rfl) (fun _ _ _ h => h) (Or.inr ⟨by rfl, rfl⟩) (by assumption) ?_
                  simp only [Act.put, List.setIfInBounds_toArray, List.set_cons_zero, List.set_cons_succ]
                  refine wpAnyH_takeD (i := 15) (d := (some 89)) (v := undef) rfl rfl (by kernel_rfl) (by kernel_rfl) (by kernel_rfl) (fun _ _ _ h => h) (Or.inr ⟨by rfl, rfl⟩) (by assumption) ?_
                  simp only [Act.put, List.setIfInBounds_toArray, List.set_cons_zero, List.set_cons_succ]
                  refine wpAnyH_takeD (i := 16) (d := (some 90)) (v := undef) rfl rfl (by kernel_rfl) (by kernel_rfl) (by kernel_rfl) (fun _ _ _ h => h) (Or.inr ⟨by rfl, rfl⟩) (by assumption) ?_
                  simp only [Act.put, List.setIfInBounds_toArray, List.set_cons_zero, List.set_cons_succ]
                  refine wpAnyH_takeD (i := 17) (d := (some 91)) (v := undef) rfl rfl (by kernel_rfl) (by kernel_rfl) (by kernel_rfl) (fun _ _ _ h => h) (Or.inr ⟨by rfl, rfl⟩) (by assumption) ?_
                  simp only [Act.put, List.setIfInBounds_toArray, List.set_cons_zero, List.set_cons_succ]
                  refine wpAnyH_takeD (i := 18) (d := (some 92)) (v := undef) rfl rfl (by kernel_rfl) (by kernel_rfl) (by kernel_rfl) (fun _ _ _ h => h) (Or.inr ⟨by rfl, rfl⟩) (by assumption) ?_
                  simp only [Act.put, List.setIfInBounds_toArray, List.set_cons_zero, List.set_cons_succ]
                  refine wpAnyH_takeD (i := 19) (d := (some 93)) (v := undef) rfl rfl (by kernel_rfl) (by kernel_rfl) (by kernel_rfl) (fun _ _ _ h => h) (Or.inr ⟨by rfl, rfl⟩) (by assumption) ?_
                  simp only [Act.put, List.setIfInBounds_toArray, List.set_cons_zero, List.set_cons_succ]
                  refine wpAnyH_takeD (i := 20) (d := (some 94)) (v := undef) rfl rfl (by kernel_rfl) (by kernel_rfl) (by kernel_rfl) (fun _ _ _ h => h) (Or.inr ⟨by rfl, rfl⟩) (by assumption) ?_
                  simp only [Act.put, List.setIfInBounds_toArray, List.set_cons_zero, List.set_cons_succ]
                  (refine wpAnyH_tk 21 (some 95) (v := ?_) rfl rfl ?_ ?_; rotate_left; (focus (intro wq hSw; clear hSw; go_simp; all_goals (with_reducible rfl))); simp only [Act.put, List.setIfInBounds_toArray, List.set_cons_zero, List.set_cons_succ])
                  refine wpAnyH_done (by kernel_rfl) ?_ _
                  clear hHeld
                  have HCT : Hid (CutX hd2 xd at9) := Lib.hid ⟨by rw [HL2.out]; exact hat, HLO.out, fun h => absurd h (by rw [HL2.out]; exact han9)⟩
                  have hb8 := bel_trans hb7 hbd
                  clear hb7 hbd w7S
                  skip
                  have hbwZ := bel_trans hbw6 hb8
                  have ZS := HB6.out.up hb8
                  have HKF : Hid (khasH hd2 xd = false) := Lib.hid (by (cases e : khasH hd2 xd; rfl; exact absurd ((khasH_at HCT.out).1 e).1 (by rw [HL2.out]; exact han9)))
                  go_upto_region 16 with fail
                  have hbd : Below Z.heap.size Z Z.drew := bel_drew (Below.refl _ _)
                  refine wp_region_held_drew (S := fun _ => True) (by kernel_rfl) trivial (fun hHeld => ?_)
                  generalize Z.drew = Z2 at *
                  (refine wpAnyH_tk 0 (some 98) (v := ?_) rfl rfl ?_ ?_; rotate_left; (focus (intro wq hSw; clear hSw; go_simp; all_goals (with_reducible rfl))); simp only [Act.put, List.setIfInBounds_toArray, List.set_cons_zero, List.set_cons_succ])
                  (refine wpAnyH_tk 1 (some 99) (v := ?_) rfl rfl ?_ ?_; rotate_left; (focus (intro wq hSw; clear hSw; go_simp; all_goals (with_reducible rfl))); simp only [Act.put, List.setIfInBounds_toArray, List.set_cons_zero, List.set_cons_succ])
                  (refine wpAnyH_tk 2 (some 100) (v := ?_) rfl rfl ?_ ?_; rotate_left; (focus (intro wq hSw; clear hSw; go_simp; all_goals (with_reducible rfl))); simp only [Act.put, List.setIfInBounds_toArray, List.set_cons_zero, List.set_cons_succ])
                  (refine wpAnyH_tk 3 (some 101) (v := ?_) rfl rfl ?_ ?_; rotate_left; (focus (intro wq hSw; clear hSw; go_simp; all_goals (with_reducible rfl))); simp only [Act.put, List.setIfInBounds_toArray, List.set_cons_zero, List.set_cons_succ])
                  (refine wpAnyH_tk 4 (some 102) (v := ?_) rfl rfl ?_ ?_; rotate_left; (focus (intro wq hSw; clear hSw; go_simp; all_goals (with_reducible rfl))); simp only [Act.put, List.setIfInBounds_toArray, List.set_cons_zero, List.set_cons_succ])
                  refine wpAnyH_takeD (i := 5) (d := (some 103)) (v := undef) rfl rfl (by kernel_rfl) (by kernel_rfl) (by kernel_rfl) (fun _ _ _ h => h) (Or.inr ⟨by rfl, rfl⟩) (by assumption) ?_
                  simp only [Act.put, List.setIfInBounds_toArray, List.set_cons_zero, List.set_cons_succ]
                  refine wpAnyH_takeD (i := 6) (d := (some 104)) (v := undef) rfl rfl (by kernel_rfl) (by kernel_rfl) (by kernel_rfl) (fun _ _ _ h => h) (Or.inr ⟨by rfl, rfl⟩) (by assumption) ?_
                  simp only [Act.put, List.setIfInBounds_toArray, List.set_cons_zero, List.set_cons_succ]
                  refine wpAnyH_takeD (i := 7) (d := (some 105)) (v := undef) rfl rfl (by kernel_rfl) (by kernel_rfl) (by kernel_rfl) (fun _ _ _ h => h) (Or.inr ⟨by rfl, rfl⟩) (by assumption) ?_
                  simp only [Act.put, List.setIfInBounds_toArray, List.set_cons_zero, List.set_cons_succ]
                  refine wpAnyH_takeD (i := 8) (d := (some 106)) (v := undef) rfl rfl (by kernel_rfl) (by kernel_rfl) (by kernel_rfl) (fun _ _ _ h => h) (Or.inr ⟨by rfl, rfl⟩) (by assumption) ?_
                  simp only [Act.put, List.setIfInBounds_toArray, List.set_cons_zero, List.set_cons_succ]
                  refine wpAnyH_takeD (i := 9) (d := (some 107)) (v := undef) rfl rfl (by kernel_rfl) (by kernel_rfl) (by kernel_rfl) (fun _ _ _ h => h) (Or.inr ⟨by rfl, rfl⟩) (by assumption) ?_
                  simp only [Act.put, List.setIfInBounds_toArray, List.set_cons_zero, List.set_cons_succ]
                  refine wpAnyH_takeD (i := 10) (d := (some 108)) (v := undef) rfl rfl (by kernel_rfl) (by kernel_rfl) (by kernel_rfl) (fun _ _ _ h => h) (Or.inr ⟨by rfl, rfl⟩) (by assumption) ?_
                  simp only [Act.put, List.setIfInBounds_toArray, List.set_cons_zero, List.set_cons_succ]
                  refine wpAnyH_takeD (i := 11) (d := (some 109)) (v := undef) rfl rfl (by kernel_rfl) (by kernel_rfl) (by kernel_rfl) (fun _ _ _ h => h) (Or.inr ⟨by rfl, rfl⟩) (by assumption) ?_
                  simp only [Act.put, List.setIfInBounds_toArray, List.set_cons_zero, List.set_cons_succ]
                  refine wpAnyH_takeD (i := 12) (d := (some 110)) (v := undef) rfl rfl (by kernel_rfl) (by kernel_rfl) (by kernel_rfl) (fun _ _ _ h => h) (Or.inr ⟨by rfl, rfl⟩) (by assumption) ?_
                  simp only [Act.put, List.setIfInBounds_toArray, List.set_cons_zero, List.set_cons_succ]
                  refine wpAnyH_takeD (i := 13) (d := (some 111)) (v := undef) rfl rfl (by kernel_rfl) (by kernel_rfl) (by kernel_rfl) (fun _ _ _ h => h) (Or.inr ⟨by rfl, rfl⟩) (by assumption) ?_
                  simp only [Act.put, List.setIfInBounds_toArray, List.set_cons_zero, List.set_cons_succ]
                  refine wpAnyH_takeD (i := 14) (d := (some 112)) (v := undef) rfl rfl (by kernel_rfl) (by kernel_rfl) (by kernel_rfl) (fun _ _ _ h => h) (Or.inr ⟨by rfl, rfl⟩) (by assumption) ?_
                  simp only [Act.put, List.setIfInBounds_toArray, List.set_cons_zero, List.set_cons_succ]
                  refine wpAnyH_takeD (i := 15) (d := (some 113)) (v := undef) rfl rfl (by kernel_rfl) (by kernel_rfl) (by kernel_rfl) (fun _ _ _ h => h) (Or.inr ⟨by rfl, rfl⟩) (by assumption) ?_
                  simp only [Act.put, List.setIfInBounds_toArray, List.set_cons_zero, List.set_cons_succ]
                  refine wpAnyH_takeD (i := 16) (d := (some 114)) (v := undef) rfl rfl (by kernel_rfl) (by kernel_rfl) (by kernel_rfl) (fun _ _ _ h => h) (Or.inr ⟨by rfl, rfl⟩) (by assumption) ?_
                  simp only [Act.put, List.setIfInBounds_toArray, List.set_cons_zero, List.set_cons_succ]
                  refine wpAnyH_takeD (i := 17) (d := (some 115)) (v := undef) rfl rfl (by kernel_rfl) (by kernel_rfl) (by kernel_rfl) (fun _ _ _ h => h) (Or.inr ⟨by rfl, rfl⟩) (by assumption) ?_
                  simp only [Act.put, List.setIfInBounds_toArray, List.set_cons_zero, List.set_cons_succ]
                  refine wpAnyH_takeD (i := 18) (d := (some 116)) (v := undef) rfl rfl (by kernel_rfl) (by kernel_rfl) (by kernel_rfl) (fun _ _ _ h => h) (Or.inr ⟨by rfl, rfl⟩) (by assumption) ?_
                  simp only [Act.put, List.setIfInBounds_toArray, List.set_cons_zero, List.set_cons_succ]
                  refine wpAnyH_takeD (i := 19) (d := (some 117)) (v := undef) rfl rfl (by kernel_rfl) (by kernel_rfl) (by kernel_rfl) (fun _ _ _ h => h) (Or.inr ⟨by rfl, rfl⟩) (by assumption) ?_
                  simp only [Act.put, List.setIfInBounds_toArray, List.set_cons_zero, List.set_cons_succ]
                  refine wpAnyH_takeD (i := 20) (d := (some 118)) (v := undef) rfl rfl (by kernel_rfl) (by kernel_rfl) (by kernel_rfl) (fun _ _ _ h => h) (Or.inr ⟨by rfl, rfl⟩) (by assumption) ?_
                  simp only [Act.put, List.setIfInBounds_toArray, List.set_cons_zero, List.set_cons_succ]
                  (refine wpAnyH_tk 21 (some 119) (v := ?_) rfl rfl ?_ ?_; rotate_left; (focus (intro wq hSw; clear hSw; go_simp; all_goals (with_reducible rfl))); simp only [Act.put, List.setIfInBounds_toArray, List.set_cons_zero, List.set_cons_succ])
                  refine wpAnyH_done (by kernel_rfl) ?_ _
                  clear hHeld
                  have hb8b := bel_trans hb8 hbd
                  clear hb8 hbd ZS
                  go_upto_region 17 with fail
                  obtain ⟨V, hV⟩ : ∃ V, V = Z2 := ⟨_, rfl⟩
                  subst hV
                  have hb6V := hb8b
                  have hbwV := bel_trans hbw6 hb6V
                  have HHV := Lib.hid (HH2.out.up hb6V)
                  have HBV := Lib.hid (HB6.out.up hb6V)
                  clear hb8b
                  have hnat : at9 ≤ hn := by have h1 := HCT.out.le; rw [HL2.out] at h1; exact h1
                  obtain ⟨rA, rc, eR, hRd, hrc, hRv⟩ := HHV.out.read (by rw [HL2.out]; omega)
                  rw [HL2.out] at eR hRd hrc hRv
                  injection eR with eR1 eR2 eR3
                  subst eR1
                  subst eR3
                  clear eR2
                  have HRD := Lib.hid hRd
                  have HRV := Lib.hid hRv
                  clear hRd hRv
                  have hBT : BigH (hd2.take at9) := (BigH_of HG2.out.2 (by rw [HL2.out]; omega)).take _
                  have HBT := Lib.hid hBT
                  clear hBT
                  have hla : at9 ≤ hc := by omega
                  have hlai : (at9 : Int) ≤ (hc : Int) := by omega
                  have hla0 : (0 : Int) ≤ (at9 : Int) := by omega
                  have hlan : (at9 : Int) ≤ (hn : Int) := by omega
                  have hob : ∀ g, ((Value.slice aA an ac).ownBlock = some g ∨ g = gx) → g < V.heap.size := fun g e => Nat.lt_of_lt_of_le (e.elim (fun e => (own_lt HAL5.out g e).2) (fun e => by rw [e]; exact HX5.out.lt)) (Nat.le_trans hb6.size hb6V.size)
                  have HOB := Lib.hid hob
                  clear hob
                  obtain ⟨S, hSd⟩ : ∃ S : World → Prop, S = fun Q => Q.cell? ⟨w.heap.size, 4, none⟩ = some (.slice (some ⟨ab, aoff, none⟩) ln lc) ∧ Q.cell? ⟨ab, aoff + k * 3 + 2, none⟩ = some (.slice (some ⟨cb, co, none⟩) k5 e5) ∧ Q.rangeAt cb (co + j * 4) [.int .i64 x.di, .int .i64 x.b.au, .int .i64 x.b.n, .slice X xn xc] := ⟨_, rfl⟩
                  have hS1 : ∀ Q, S Q → Q.cell? ⟨w.heap.size, 4, none⟩ = some (.slice (some ⟨ab, aoff, none⟩) ln lc) := fun Q h => by rw [hSd] at h; exact h.1
                  have hS2 : ∀ Q, S Q → Q.cell? ⟨ab, aoff + k * 3 + 2, none⟩ = some (.slice (some ⟨cb, co, none⟩) k5 e5) := fun Q h => by rw [hSd] at h; exact h.2.1
                  have hS3 : ∀ Q, S Q → Q.rangeAt cb (co + j * 4) [.int .i64 x.di, .int .i64 x.b.au, .int .i64 x.b.n, .slice X xn xc] := fun Q h => by rw [hSd] at h; exact h.2.2
                  have hS : ∀ Q, Below V.heap.size V Q → S Q := fun Q hQ => by
                    have hq := bel_trans hbwV hQ
                    rw [hSd]
                    refine ⟨(HBV.out.up hQ).2 4 _ rfl, (hq.cell (p := ⟨ab, aoff + k * 3 + 2, none⟩) hab).trans HF12.out.2, fun r u hu => ?_⟩
                    have hr4 : r < 4 := (List.getElem?_eq_some_iff.1 hu).1
                    match r, hr4, hu with
                    | 0, _, hu => injection hu with hu; subst hu; exact (hq.cell (p := ⟨cb, co + j * 4, none⟩) hcb).trans HXC.out.1
                    | 1, _, hu => injection hu with hu; subst hu; exact (hq.cell (p := ⟨cb, co + j * 4 + 1, none⟩) hcb).trans HXC.out.2.1
                    | 2, _, hu => injection hu with hu; subst hu; exact (hq.cell (p := ⟨cb, co + j * 4 + 2, none⟩) hcb).trans HXC.out.2.2.1
                    | 3, _, hu => injection hu with hu; subst hu; exact (hq.cell (p := ⟨cb, co + j * 4 + 3, none⟩) hcb).trans HXC.out.2.2.2
                  clear hSd
                  go_cut [9] from 120 to 134 (fun s9 wx => ∃ (A7 : Option Addr) (c7 : Nat) (qs : List Value), s9 = .slice A7 (at9 + 1) c7 ∧ Hid (qs.length = at9) ∧ Hid (∀ i, i < at9 → OwnX wx V.heap.size (qs.getD i default) (hth hd2 i).b.tx) ∧ Hid (wx.ownsRow V.heap.size 44 4 (.slice A7 (at9 + 1) c7) (at9 + 1) (dcells dHeld (hd2.take at9) qs ++ dHeld.enc x (.slice X xn xc))) ∧ Below V.heap.size V wx)
                  case first =>
                    refine wp_region_held_drew (S := S) (by kernel_rfl) (hS _ (bel_drew (Below.refl _ _))) (fun hHeld => ?_)
                    have hbd : Below V.heap.size V V.drew := bel_drew (Below.refl _ _)
                    generalize V.drew = Z3 at *
                    (refine wpAnyH_tk 0 (some 120) (v := ?_) rfl rfl ?_ ?_; rotate_left; (focus (intro wq hSw; clear hSw; go_simp; all_goals (with_reducible rfl))); simp only [Act.put, List.setIfInBounds_toArray, List.set_cons_zero, List.set_cons_succ])
                    (refine wpAnyH_tk 1 (some 121) (v := ?_) rfl rfl ?_ ?_; rotate_left; (focus (intro wq hSw; clear hSw; go_simp; all_goals (with_reducible rfl))); simp only [Act.put, List.setIfInBounds_toArray, List.set_cons_zero, List.set_cons_succ])
                    (refine wpAnyH_tk 2 (some 122) (v := ?_) rfl rfl ?_ ?_; rotate_left; (focus (intro wq hSw; clear hSw; go_simp; all_goals (with_reducible rfl))); simp only [Act.put, List.setIfInBounds_toArray, List.set_cons_zero, List.set_cons_succ])
                    (refine wpAnyH_tk 4 (some 124) (v := ?_) rfl rfl ?_ ?_; rotate_left; (focus (intro wq hSw; clear hSw; go_simp; all_goals (with_reducible rfl))); simp only [Act.put, List.setIfInBounds_toArray, List.set_cons_zero, List.set_cons_succ])
                    (refine wpAnyH_tk 5 (some 125) (v := ?_) rfl rfl ?_ ?_; rotate_left; (focus (intro wq hSw; have q1 := hS1 wq hSw; clear hSw; go_simp; all_goals (with_reducible rfl))); simp only [Act.put, List.setIfInBounds_toArray, List.set_cons_zero, List.set_cons_succ])
                    (refine wpAnyH_tk 6 (some 126) (v := ?_) rfl rfl ?_ ?_; rotate_left; (focus (intro wq hSw; clear hSw; go_simp; all_goals (with_reducible rfl))); simp only [Act.put, List.setIfInBounds_toArray, List.set_cons_zero, List.set_cons_succ])
                    (refine wpAnyH_tk 7 (some 127) (v := ?_) rfl rfl ?_ ?_; rotate_left; (focus (intro wq hSw; clear hSw; go_simp; all_goals (with_reducible rfl))); simp only [Act.put, List.setIfInBounds_toArray, List.set_cons_zero, List.set_cons_succ])
                    (refine wpAnyH_tk 8 (some 128) (v := ?_) rfl rfl ?_ ?_; rotate_left; (focus (intro wq hSw; clear hSw; go_simp; all_goals (with_reducible rfl))); simp only [Act.put, List.setIfInBounds_toArray, List.set_cons_zero, List.set_cons_succ])
                    (refine wpAnyH_tk 9 (some 129) (v := ?_) rfl rfl ?_ ?_; rotate_left; (focus (intro wq hSw; have q1 := hS2 wq hSw; clear hSw; go_simp; all_goals (with_reducible rfl))); simp only [Act.put, List.setIfInBounds_toArray, List.set_cons_zero, List.set_cons_succ])
                    (refine wpAnyH_tk 10 (some 130) (v := ?_) rfl rfl ?_ ?_; rotate_left; (focus (intro wq hSw; clear hSw; go_simp; all_goals (with_reducible rfl))); simp only [Act.put, List.setIfInBounds_toArray, List.set_cons_zero, List.set_cons_succ])
                    (refine wpAnyH_tk 11 (some 131) (v := ?_) rfl rfl ?_ ?_; rotate_left; (focus (intro wq hSw; clear hSw; go_simp; all_goals (with_reducible rfl))); simp only [Act.put, List.setIfInBounds_toArray, List.set_cons_zero, List.set_cons_succ])
                    refine wpAnyH_takeD (i := 12) (d := (some 132)) (v := .agg ([.int .i64 x.di, .int .i64 x.b.au, .int .i64 x.b.n, .slice X xn xc]).toArray) rfl rfl (by kernel_rfl) (by kernel_rfl) (by kernel_rfl) (fun _ _ _ h => h) (yieldsIf_load_mid (by rfl) 44 _ rfl cb (co + j * 4) (by simp [Act.eval, Act.put]) ([.int .i64 x.di, .int .i64 x.b.au, .int .i64 x.b.n, .slice X xn xc]) _ (hS3) Try.underlying44 (by rfl) (by kernel_rfl)) (by assumption) ?_
                    simp only [Act.put, List.setIfInBounds_toArray, List.set_cons_zero, List.set_cons_succ]
                    refine wpAnyH_ready (rs := [3, 13]) (by kernel_rfl) (by simp) ?_
                    refine AllReadyH.cons (o := _) rfl (fun K hK => ?_) (AllReadyH.cons (o := _) rfl (fun K hK => ?_) AllReadyH.nil)
                    · skip
                      go_simp
                      (go_at_call 9; refine (ref0_CopyHelds _ at9 _ (hd2.take at9) _ ((HRD.out.up (hbd)).takeN hnat) HBT.out).mono ?_; rintro e w9 ⟨v9, rfl, ho9, hb9⟩)
                      obtain ⟨qs, hT9⟩ := ho9
                      have hlB := (hbd).size
                      have hbb9 := bel_trans (hbd) hb9
                      refine hK.out _ _ (hS _ hbb9) (fun hHeld => ?_)
                      clear hK K
                      (try simp only [Act.put, List.setIfInBounds_toArray, List.set_cons_zero, List.set_cons_succ])
                      refine wpAnyH_ready (rs := [13]) (by kernel_rfl) (by simp) ?_
                      refine AllReadyH.cons (o := _) rfl (fun K hK => ?_) AllReadyH.nil
                      go_simp
                      obtain ⟨g4, hg4⟩ : ∃ g, g = w9.heap.size := ⟨_, rfl⟩
                      obtain ⟨ZB, hZB⟩ : ∃ Zq : World, Zq = w9.alloc (.cells #[.int .i64 x.di, .int .i64 x.b.au, .int .i64 x.b.n, .slice X xn xc] 44) := ⟨_, rfl⟩
                      rw [← hg4, ← hZB]
                      have hza : Blk ZB g4 44 [.int .i64 x.di, .int .i64 x.b.au, .int .i64 x.b.n, .slice X xn xc] := by rw [hZB, hg4]; exact Blk.new _ 44 [.int .i64 x.di, .int .i64 x.b.au, .int .i64 x.b.n, .slice X xn xc]
                      have hbz : Below w9.heap.size w9 ZB := by rw [hZB]; exact bel_alloc (Below.refl _ _)
                      have hbbz := bel_trans (hbb9) hbz
                      clear hg4 hZB
                      have hT9 := hT9.up hbz
                      refine hK.out _ _ (hS _ hbbz) (fun hHeld => ?_)
                      clear hK K
                      (try simp only [Act.put, List.setIfInBounds_toArray, List.set_cons_zero, List.set_cons_succ])
                      refine wpAnyH_ready (rs := [14]) (by kernel_rfl) (by simp) ?_
                      refine AllReadyH.cons (o := _) rfl (fun K hK => ?_) AllReadyH.nil
                      have hrow9 : ZB.ownsRow V.heap.size 44 4 v9 at9 (dcells dHeld (hd2.take at9) qs) := by have h9 := hT9.1; rw [List.length_take, HL2.out, Nat.min_eq_left hnat] at h9; exact own_mono h9 hlB
                      refine step_appRow_Held rfl (.tmp 123) (.tmp 133) rfl rfl V.heap.size v9 at9 _ (by simp [Act.eval, Act.put]) hrow9 (some ⟨g4, 0, none⟩) 1 1 [.int .i64 x.di, .int .i64 x.b.au, .int .i64 x.b.n, .slice X xn xc] (by simp [Act.eval, Act.put]) ⟨rfl, by omega, fun _ => ⟨g4, 0, rfl, hza.lt, fun r u hu => by rw [Nat.zero_add]; exact hza.box.2 r u hu⟩⟩ (by simp [Value.oneCell']) (by omega) (hbbz).size ?_
                      intro v10 w10 hown10 hg10 hb10
                      obtain ⟨A7, c7, rfl, -, -, -, -⟩ := own_row hown10 (by omega)
                      have hbb10 := Below.trans (hbbz) hb10
                      show K (Act.put _ (some 134) _) _
                      refine hK.out _ _ (hS _ hbb10) (fun hHeld => ?_)
                      clear hK K
                      (try simp only [Act.put, List.setIfInBounds_toArray, List.set_cons_zero, List.set_cons_succ])
                      (refine wpAnyH_tk 15 (some 9) (v := ?_) rfl rfl ?_ ?_; rotate_left; (focus (intro wq hSw; clear hSw; go_simp; all_goals (with_reducible rfl))); simp only [Act.put, List.setIfInBounds_toArray, List.set_cons_zero, List.set_cons_succ])
                      refine wpAnyH_done (by kernel_rfl) ?_ _
                      go_wp2_with fail
                      go_meet
                      refine ⟨A7, c7, qs, rfl, Lib.hid (by have h9 := hT9.2.1; rw [List.length_take, HL2.out, Nat.min_eq_left hnat] at h9; exact h9), Lib.hid (fun i hi => ?_), Lib.hid hown10, hbb10⟩
                      have h1 : OwnX _ _ (qs.getD i default) ((hd2.take at9).getD i default).b.tx := hT9.2.2 i (by rw [List.length_take, HL2.out, Nat.min_eq_left hnat]; exact hi)
                      rw [show (hd2.take at9).getD i default = hd2.getD i default by simp [hi]] at h1
                      exact OwnX.mono (own_farT h1 hrow9 (by decide) hg10) hlB
                    · skip
                      go_simp
                      obtain ⟨g4, hg4⟩ : ∃ g, g = Z3.heap.size := ⟨_, rfl⟩
                      obtain ⟨ZB, hZB⟩ : ∃ Zq : World, Zq = Z3.alloc (.cells #[.int .i64 x.di, .int .i64 x.b.au, .int .i64 x.b.n, .slice X xn xc] 44) := ⟨_, rfl⟩
                      rw [← hg4, ← hZB]
                      have hza : Blk ZB g4 44 [.int .i64 x.di, .int .i64 x.b.au, .int .i64 x.b.n, .slice X xn xc] := by rw [hZB, hg4]; exact Blk.new _ 44 [.int .i64 x.di, .int .i64 x.b.au, .int .i64 x.b.n, .slice X xn xc]
                      have hbz : Below Z3.heap.size Z3 ZB := by rw [hZB]; exact bel_alloc (Below.refl _ _)
                      have hbbz := bel_trans (hbd) hbz
                      clear hg4 hZB
                      refine hK.out _ _ (hS _ hbbz) (fun hHeld => ?_)
                      clear hK K
                      (try simp only [Act.put, List.setIfInBounds_toArray, List.set_cons_zero, List.set_cons_succ])
                      refine wpAnyH_ready (rs := [3]) (by kernel_rfl) (by simp) ?_
                      refine AllReadyH.cons (o := _) rfl (fun K hK => ?_) AllReadyH.nil
                      go_simp
                      (go_at_call 9; refine (ref0_CopyHelds _ at9 _ (hd2.take at9) _ ((HRD.out.up (hbbz)).takeN hnat) HBT.out).mono ?_; rintro e w9 ⟨v9, rfl, ho9, hb9⟩)
                      obtain ⟨qs, hT9⟩ := ho9
                      have hlB := (hbbz).size
                      have hbb9 := bel_trans (hbbz) hb9
                      have hz9 := hza.up hb9
                      refine hK.out _ _ (hS _ hbb9) (fun hHeld => ?_)
                      clear hK K
                      (try simp only [Act.put, List.setIfInBounds_toArray, List.set_cons_zero, List.set_cons_succ])
                      refine wpAnyH_ready (rs := [14]) (by kernel_rfl) (by simp) ?_
                      refine AllReadyH.cons (o := _) rfl (fun K hK => ?_) AllReadyH.nil
                      have hrow9 : w9.ownsRow V.heap.size 44 4 v9 at9 (dcells dHeld (hd2.take at9) qs) := by have h9 := hT9.1; rw [List.length_take, HL2.out, Nat.min_eq_left hnat] at h9; exact own_mono h9 hlB
                      refine step_appRow_Held rfl (.tmp 123) (.tmp 133) rfl rfl V.heap.size v9 at9 _ (by simp [Act.eval, Act.put]) hrow9 (some ⟨g4, 0, none⟩) 1 1 [.int .i64 x.di, .int .i64 x.b.au, .int .i64 x.b.n, .slice X xn xc] (by simp [Act.eval, Act.put]) ⟨rfl, by omega, fun _ => ⟨g4, 0, rfl, hz9.lt, fun r u hu => by rw [Nat.zero_add]; exact hz9.box.2 r u hu⟩⟩ (by simp [Value.oneCell']) (by omega) (hbb9).size ?_
                      intro v10 w10 hown10 hg10 hb10
                      obtain ⟨A7, c7, rfl, -, -, -, -⟩ := own_row hown10 (by omega)
                      have hbb10 := Below.trans (hbb9) hb10
                      show K (Act.put _ (some 134) _) _
                      refine hK.out _ _ (hS _ hbb10) (fun hHeld => ?_)
                      clear hK K
                      (try simp only [Act.put, List.setIfInBounds_toArray, List.set_cons_zero, List.set_cons_succ])
                      (refine wpAnyH_tk 15 (some 9) (v := ?_) rfl rfl ?_ ?_; rotate_left; (focus (intro wq hSw; clear hSw; go_simp; all_goals (with_reducible rfl))); simp only [Act.put, List.setIfInBounds_toArray, List.set_cons_zero, List.set_cons_succ])
                      refine wpAnyH_done (by kernel_rfl) ?_ _
                      go_wp2_with fail
                      go_meet
                      refine ⟨A7, c7, qs, rfl, Lib.hid (by have h9 := hT9.2.1; rw [List.length_take, HL2.out, Nat.min_eq_left hnat] at h9; exact h9), Lib.hid (fun i hi => ?_), Lib.hid hown10, hbb10⟩
                      have h1 : OwnX _ _ (qs.getD i default) ((hd2.take at9).getD i default).b.tx := hT9.2.2 i (by rw [List.length_take, HL2.out, Nat.min_eq_left hnat]; exact hi)
                      rw [show (hd2.take at9).getD i default = hd2.getD i default by simp [hi]] at h1
                      exact OwnX.mono (own_farT h1 hrow9 (by decide) hg10) hlB
                  case rest =>
                  obtain ⟨A7, c7, qs, rfl, HQL, HQT, HO7, hb7V⟩ := hcut
                  obtain ⟨V1, hV1⟩ : ∃ x, x = wc := ⟨_, rfl⟩
                  subst hV1
                  clear hS hS1 hS2 hS3
                  rcases own_shape HHV.out.row with ⟨eE, hE0⟩ | ⟨hg, hc', eE, hgB, hgc'⟩
                  · skip
                    injection eE with eE1 eE2 eE3
                    subst eE1
                    subst eE2
                    subst eE3
                    obtain rfl : at9 = 0 := by omega
                    have hdo : ∀ u ∈ dcells dHeld hd2 vs, u.oneCell' = true := HHV.out.one
                    have HDO := Lib.hid hdo
                    clear hdo
                    have HRVW := Lib.hid (HRV.out.up hb7V)
                    go_wp2_with (at_builtin; refine wpList_appRow_Held rfl (.tmp 135) (.tmp 138) rfl rfl V.heap.size (.slice A7 (0 + 1) c7) (0 + 1) _ rfl HO7.out _ (0 - 0) _ ((dcells dHeld hd2 vs).drop (0 * 4)) rfl (by first | (rw [List.drop_of_length_le (by rw [HRV.out.1]; omega)]; exact RowV.nilA _ _) | exact RowV.nilA _ _) (fun u hu => HDO.out u (List.mem_of_mem_drop hu)) (by omega) hb7V.size ?_; intro v9 W9 hown9 hg9w hb9; rw [show 0 + 1 + (0 - 0) = 0 + 1 by omega] at hown9; (obtain ⟨A9, c9, e9, -, -, -, -⟩ := own_row hown9 (by omega)); subst e9)
                    have hbV9 : Below V.heap.size V W9 := Below.trans hb7V hb9
                    have hb59 := bel_trans (bel_trans hb6 hb6V) hbV9
                    have hH9 := HeldO.ins (x := x) (X := X) (xn := xn) (xc := xc) HHV.out (lo := 0) (by rw [HL2.out]; exact hnat) HQL.out (fun i hi => OwnX.farO (own_farT (HQT.out i hi) HO7.out (by decide) hg9w) (by have h2 := (BigH_of HG2.out.2 (by rw [HL2.out]; omega)).2 (hth hd2 i) (getD_mem (by rw [HL2.out]; omega)); omega) HOB.out) (HXT.out.up (bel_trans hbwV hbV9)) (HXT.out.low (fun g e => e.elim (fun e => Nat.le_of_lt (own_lt HAL5.out g e).1) (fun e => by rw [e]; exact hgxw))) (fun A n t ht => ht.up hbV9) (by rw [show 0 + 1 + (hd2.length - 0) = 0 + 1 by (have h9 := HL2.out); omega]; exact own_mono hown9 hbwV.size)
                    have hil : (insAt hd2 0 x).length = 0 + 1 := by rw [insAt_len (by rw [HL2.out]; exact hnat), HL2.out]
                    have hcx : CutX hd2 x.di 0 := by rw [HXD.out]; exact HCT.out
                    have hkx : khasH hd2 x.di = false := by rw [HXD.out]; exact HKF.out
                    have hgr9 : GrowH hd (insAt hd2 0 x) := HG2.out.1.trans (GrowH.ins HG2.out.2.sorted hcx hkx)
                    have hm9 := HG2.out.2.insX hcx hkx HXK.out.1 HXK.out.2
                    (first | (go_round; (case rel => exact ⟨j + 1, insAt hd2 0 x, qs ++ Value.slice X xn xc :: vs.drop 0, A9, 0 + 1, c9, by omega, by go_num, rfl, Lib.hid hH9, Lib.hid hil, by omega, Lib.hid ⟨hgr9, hm9⟩, hb59⟩); (case measure => (simp [intOf] <;> omega))) | (go_roundw; (case rel => exact ⟨j + 1, insAt hd2 0 x, qs ++ Value.slice X xn xc :: vs.drop 0, A9, 0 + 1, c9, by omega, by go_num, rfl, Lib.hid hH9, Lib.hid hil, by omega, Lib.hid ⟨hgr9, hm9⟩, hb59⟩); (case measure => (simp [intOf] <;> omega))) | (refine ⟨?_, by simp [intOf] <;> omega⟩; (repeat apply Exists.intro); refine ⟨?rel, ?fr⟩; (case fr => ((repeat' apply And.intro) <;> rfl)); (case rel => exact ⟨j + 1, insAt hd2 0 x, qs ++ Value.slice X xn xc :: vs.drop 0, A9, 0 + 1, c9, by omega, by go_num, rfl, Lib.hid hH9, Lib.hid hil, by omega, Lib.hid ⟨hgr9, hm9⟩, hb59⟩)))
                  · skip
                    injection eE with eE1 eE2 eE3
                    subst eE1
                    clear eE2 eE3
                    by_cases hce : hc = at9
                    · skip
                      subst hce
                      have hdo : ∀ u ∈ dcells dHeld hd2 vs, u.oneCell' = true := HHV.out.one
                      have HDO := Lib.hid hdo
                      clear hdo
                      have HRVW := Lib.hid (HRV.out.up hb7V)
                      go_wp2_with (at_builtin; refine wpList_appRow_Held rfl (.tmp 135) (.tmp 138) rfl rfl V.heap.size (.slice A7 (hc + 1) c7) (hc + 1) _ rfl HO7.out _ (0) _ ((dcells dHeld hd2 vs).drop (hc * 4)) rfl (by rw [List.drop_of_length_le (by rw [HRV.out.1]; omega)]; exact RowV.nilA _ _) (fun u hu => HDO.out u (List.mem_of_mem_drop hu)) (by omega) hb7V.size ?_; intro v9 W9 hown9 hg9w hb9; rw [show hc + 1 + (0) = hn + 1 by omega] at hown9; (obtain ⟨A9, c9, e9, -, -, -, -⟩ := own_row hown9 (by omega)); subst e9)
                      have hbV9 : Below V.heap.size V W9 := Below.trans hb7V hb9
                      have hb59 := bel_trans (bel_trans hb6 hb6V) hbV9
                      have hH9 := HeldO.ins (x := x) (X := X) (xn := xn) (xc := xc) HHV.out (lo := hc) (by rw [HL2.out]; exact hnat) HQL.out (fun i hi => OwnX.farO (own_farT (HQT.out i hi) HO7.out (by decide) hg9w) (by have h2 := (BigH_of HG2.out.2 (by rw [HL2.out]; omega)).2 (hth hd2 i) (getD_mem (by rw [HL2.out]; omega)); omega) HOB.out) (HXT.out.up (bel_trans hbwV hbV9)) (HXT.out.low (fun g e => e.elim (fun e => Nat.le_of_lt (own_lt HAL5.out g e).1) (fun e => by rw [e]; exact hgxw))) (fun A n t ht => ht.up hbV9) (by rw [show hc + 1 + (hd2.length - hc) = hn + 1 by (have h9 := HL2.out); omega]; exact own_mono hown9 hbwV.size)
                      have hil : (insAt hd2 hc x).length = hn + 1 := by rw [insAt_len (by rw [HL2.out]; exact hnat), HL2.out]
                      have hcx : CutX hd2 x.di hc := by rw [HXD.out]; exact HCT.out
                      have hkx : khasH hd2 x.di = false := by rw [HXD.out]; exact HKF.out
                      have hgr9 : GrowH hd (insAt hd2 hc x) := HG2.out.1.trans (GrowH.ins HG2.out.2.sorted hcx hkx)
                      have hm9 := HG2.out.2.insX hcx hkx HXK.out.1 HXK.out.2
                      (first | (go_round; (case rel => exact ⟨j + 1, insAt hd2 hc x, qs ++ Value.slice X xn xc :: vs.drop hc, A9, hn + 1, c9, by omega, by go_num, rfl, Lib.hid hH9, Lib.hid hil, by omega, Lib.hid ⟨hgr9, hm9⟩, hb59⟩); (case measure => (simp [intOf] <;> omega))) | (go_roundw; (case rel => exact ⟨j + 1, insAt hd2 hc x, qs ++ Value.slice X xn xc :: vs.drop hc, A9, hn + 1, c9, by omega, by go_num, rfl, Lib.hid hH9, Lib.hid hil, by omega, Lib.hid ⟨hgr9, hm9⟩, hb59⟩); (case measure => (simp [intOf] <;> omega))) | (refine ⟨?_, by simp [intOf] <;> omega⟩; (repeat apply Exists.intro); refine ⟨?rel, ?fr⟩; (case fr => ((repeat' apply And.intro) <;> rfl)); (case rel => exact ⟨j + 1, insAt hd2 hc x, qs ++ Value.slice X xn xc :: vs.drop hc, A9, hn + 1, c9, by omega, by go_num, rfl, Lib.hid hH9, Lib.hid hil, by omega, Lib.hid ⟨hgr9, hm9⟩, hb59⟩)))
                    · skip
                      have hce2 : ¬ at9 = hc := fun e => hce e.symm
                      have hdo : ∀ u ∈ dcells dHeld hd2 vs, u.oneCell' = true := HHV.out.one
                      have HDO := Lib.hid hdo
                      clear hdo
                      have HRVW := Lib.hid (HRV.out.up hb7V)
                      go_wp2_with (at_builtin; refine wpList_appRow_Held rfl (.tmp 135) (.tmp 138) rfl rfl V.heap.size (.slice A7 (at9 + 1) c7) (at9 + 1) _ rfl HO7.out _ (hn - at9) _ ((dcells dHeld hd2 vs).drop (at9 * 4)) rfl (by first | exact HRVW.out.dropK hnat | (rw [show hn - at9 = 0 by omega, List.drop_of_length_le (by rw [HRV.out.1]; omega)]; exact RowV.nilA _ _)) (fun u hu => HDO.out u (List.mem_of_mem_drop hu)) (by omega) hb7V.size ?_; intro v9 W9 hown9 hg9w hb9; rw [show at9 + 1 + (hn - at9) = hn + 1 by omega] at hown9; (obtain ⟨A9, c9, e9, -, -, -, -⟩ := own_row hown9 (by omega)); subst e9)
                      have hbV9 : Below V.heap.size V W9 := Below.trans hb7V hb9
                      have hb59 := bel_trans (bel_trans hb6 hb6V) hbV9
                      have hH9 := HeldO.ins (x := x) (X := X) (xn := xn) (xc := xc) HHV.out (lo := at9) (by rw [HL2.out]; exact hnat) HQL.out (fun i hi => OwnX.farO (own_farT (HQT.out i hi) HO7.out (by decide) hg9w) (by have h2 := (BigH_of HG2.out.2 (by rw [HL2.out]; omega)).2 (hth hd2 i) (getD_mem (by rw [HL2.out]; omega)); omega) HOB.out) (HXT.out.up (bel_trans hbwV hbV9)) (HXT.out.low (fun g e => e.elim (fun e => Nat.le_of_lt (own_lt HAL5.out g e).1) (fun e => by rw [e]; exact hgxw))) (fun A n t ht => ht.up hbV9) (by rw [show at9 + 1 + (hd2.length - at9) = hn + 1 by (have h9 := HL2.out); omega]; exact own_mono hown9 hbwV.size)
                      have hil : (insAt hd2 at9 x).length = hn + 1 := by rw [insAt_len (by rw [HL2.out]; exact hnat), HL2.out]
                      have hcx : CutX hd2 x.di at9 := by rw [HXD.out]; exact HCT.out
                      have hkx : khasH hd2 x.di = false := by rw [HXD.out]; exact HKF.out
                      have hgr9 : GrowH hd (insAt hd2 at9 x) := HG2.out.1.trans (GrowH.ins HG2.out.2.sorted hcx hkx)
                      have hm9 := HG2.out.2.insX hcx hkx HXK.out.1 HXK.out.2
                      (first | (go_round; (case rel => exact ⟨j + 1, insAt hd2 at9 x, qs ++ Value.slice X xn xc :: vs.drop at9, A9, hn + 1, c9, by omega, by go_num, rfl, Lib.hid hH9, Lib.hid hil, by omega, Lib.hid ⟨hgr9, hm9⟩, hb59⟩); (case measure => (simp [intOf] <;> omega))) | (go_roundw; (case rel => exact ⟨j + 1, insAt hd2 at9 x, qs ++ Value.slice X xn xc :: vs.drop at9, A9, hn + 1, c9, by omega, by go_num, rfl, Lib.hid hH9, Lib.hid hil, by omega, Lib.hid ⟨hgr9, hm9⟩, hb59⟩); (case measure => (simp [intOf] <;> omega))) | (refine ⟨?_, by simp [intOf] <;> omega⟩; (repeat apply Exists.intro); refine ⟨?rel, ?fr⟩; (case fr => ((repeat' apply And.intro) <;> rfl)); (case rel => exact ⟨j + 1, insAt hd2 at9 x, qs ++ Value.slice X xn xc :: vs.drop at9, A9, hn + 1, c9, by omega, by go_num, rfl, Lib.hid hH9, Lib.hid hil, by omega, Lib.hid ⟨hgr9, hm9⟩, hb59⟩)))
            · skip
              obtain rfl : k5 = j := by omega
              go_upto_region 19 with fail
              clear c2 hal
              have HAU := Lib.hid (HAL5.out.up hb6)
              have HXU := Lib.hid (HX5.out.up hb6)
              have HRU := Lib.hid (HRX5.out.up hb6)
              have HBU := Lib.hid (HB5.out.up hb6)
              have HWU : Hid (HeldO w6 w.heap.size (fun b => ((Value.slice aA an ac).ownBlock = some b ∨ b = gx) ∨ w6.heap.size ≤ b) (.slice hA hn hc) vs hd2) := Lib.hid (HH2.out.wide (fun g h => h))
              clear HH2 HAL5 HX5 HRX5 HB5 hB6 hg0 b_0 b_1 b_2 b_3 b_4
              obtain ⟨n5, hn5⟩ : ∃ n, ((D.e.s ++ al) ++ freshL (D.e.s ++ al) a.l).length = n := ⟨_, rfl⟩
              obtain ⟨n6, hn6⟩ : ∃ n, (freshL (D.e.s ++ al) a.l).length = n := ⟨_, rfl⟩
              have hn6l : n6 ≤ 6000 := by rw [← hn6]; have h7 := fresh_len a.l (D.e.s ++ al); have h8 := HI0.out.1; omega
              have hn5l : n5 ≤ sn + 6000 := by rw [← hn5, List.length_append, hn6]; have h8 := HRU.out.s.1; omega
              have HN5 := Lib.hid hn5
              have HN6 := Lib.hid hn6
              have HPQ : Hid (P.length = pn ∧ Q.length = qn) := Lib.hid ⟨HRU.out.p.1, HRU.out.q.1⟩
              clear hn5 hn6
              obtain ⟨⟨⟨FP, FQ⟩, N⟩, hst⟩ : ∃ r, stepR hd2 (((D.e.s ++ al) ++ freshL (D.e.s ++ al) a.l).drop cn) P Q = r := ⟨_, rfl⟩
              have hfo := HFO.out.push HG2.out.1 HG2.out.2 (betD_iff.1 HYD.out) hst
              have HEX1 := Lib.hid hfo.1
              have HFN := Lib.hid hfo.2
              have HMF := Lib.hid (exB_iff.1 hfo.2.ex).1
              have HST := Lib.hid hst
              clear hfo hst
              obtain ⟨S, hSd⟩ : ∃ S : World → Prop, S = fun Q => Q.rangeAt gx 0 [.slice pA pn pc, .slice qA qn qc, .slice sA sn sc, .int .i64 (cn : Int)] ∧ Q.cell? ⟨w.heap.size, 4, none⟩ = some (.slice (some ⟨ab, aoff, none⟩) ln lc) ∧ Q.cell? ⟨ab, aoff + k * 3 + 1, none⟩ = some (.slice A5 m5 d5) := ⟨_, rfl⟩
              have hS1 : ∀ Q, S Q → Q.rangeAt gx 0 [.slice pA pn pc, .slice qA qn qc, .slice sA sn sc, .int .i64 (cn : Int)] := fun Q h => by rw [hSd] at h; exact h.1
              have hS2 : ∀ Q, S Q → Q.cell? ⟨w.heap.size, 4, none⟩ = some (.slice (some ⟨ab, aoff, none⟩) ln lc) := fun Q h => by rw [hSd] at h; exact h.2.1
              have hS3 : ∀ Q, S Q → Q.cell? ⟨ab, aoff + k * 3 + 1, none⟩ = some (.slice A5 m5 d5) := fun Q h => by rw [hSd] at h; exact h.2.2
              have hS : ∀ Q, Below w6.heap.size w6 Q → S Q := fun Q hQ => by rw [hSd]; exact ⟨(HXU.out.up hQ).rng, (HBU.out.up hQ).2 4 _ rfl, ((bel_trans hbw6 hQ).cell (p := ⟨ab, aoff + k * 3 + 1, none⟩) hab).trans HF12.out.1⟩
              clear hSd
              go_cut [10, 11, 12] from 140 to 151 (fun s10 s11 s12 wx => ∃ (g : Nat) (Bp Ba Bs Bf : Option Addr) (dp da ds df : Nat), s10 = .pointer (some ⟨g, 0, none⟩) ∧ s11 = .slice Bf n6 df ∧ s12 = .int .i64 0 ∧ w6.heap.size ≤ g ∧ Hid (Blk wx g 28 [.slice Bp pn dp, .slice Ba qn da, .slice Bs n5 ds, .int .i64 (cn : Int)]) ∧ Hid (PushO wx w6.heap.size (.slice Bp pn dp) (.slice Ba qn da) (.slice Bs n5 ds) (.slice Bf n6 df) P Q ((D.e.s ++ al) ++ freshL (D.e.s ++ al) a.l) (freshL (D.e.s ++ al) a.l)) ∧ Below w6.heap.size w6 wx)
              case first =>
                refine wp_region_held_drew (S := S) (by kernel_rfl) (hS _ (bel_drew (Below.refl _ _))) (fun hHeld => ?_)
                have hbd : Below w6.heap.size w6 w6.drew := bel_drew (Below.refl _ _)
                generalize w6.drew = Z at *
                refine wpAnyH_takeD (i := 0) (d := (some 141)) (v := .agg ([.slice pA pn pc, .slice qA qn qc, .slice sA sn sc, .int .i64 (cn : Int)]).toArray) rfl rfl (by kernel_rfl) (by kernel_rfl) (by kernel_rfl) (fun _ _ _ h => h) (yieldsIf_load_mid (by rfl) 28 _ rfl gx 0 (by simp [Act.eval, Act.put]) ([.slice pA pn pc, .slice qA qn qc, .slice sA sn sc, .int .i64 (cn : Int)]) _ (hS1) Try.underlying28 (by rfl) (by kernel_rfl)) (by assumption) ?_
                simp only [Act.put, List.setIfInBounds_toArray, List.set_cons_zero, List.set_cons_succ]
                (refine wpAnyH_tk 1 (some 142) (v := ?_) rfl rfl ?_ ?_; rotate_left; (focus (intro wq hSw; clear hSw; go_simp; all_goals (with_reducible rfl))); simp only [Act.put, List.setIfInBounds_toArray, List.set_cons_zero, List.set_cons_succ])
                (refine wpAnyH_tk 2 (some 143) (v := ?_) rfl rfl ?_ ?_; rotate_left; (focus (intro wq hSw; have q1 := hS2 wq hSw; clear hSw; go_simp; all_goals (with_reducible rfl))); simp only [Act.put, List.setIfInBounds_toArray, List.set_cons_zero, List.set_cons_succ])
                (refine wpAnyH_tk 3 (some 144) (v := ?_) rfl rfl ?_ ?_; rotate_left; (focus (intro wq hSw; clear hSw; go_simp; all_goals (with_reducible rfl))); simp only [Act.put, List.setIfInBounds_toArray, List.set_cons_zero, List.set_cons_succ])
                (refine wpAnyH_tk 4 (some 145) (v := ?_) rfl rfl ?_ ?_; rotate_left; (focus (intro wq hSw; clear hSw; go_simp; all_goals (with_reducible rfl))); simp only [Act.put, List.setIfInBounds_toArray, List.set_cons_zero, List.set_cons_succ])
                (refine wpAnyH_tk 5 (some 146) (v := ?_) rfl rfl ?_ ?_; rotate_left; (focus (intro wq hSw; clear hSw; go_simp; all_goals (with_reducible rfl))); simp only [Act.put, List.setIfInBounds_toArray, List.set_cons_zero, List.set_cons_succ])
                (refine wpAnyH_tk 6 (some 147) (v := ?_) rfl rfl ?_ ?_; rotate_left; (focus (intro wq hSw; have q1 := hS3 wq hSw; clear hSw; go_simp; all_goals (with_reducible rfl))); simp only [Act.put, List.setIfInBounds_toArray, List.set_cons_zero, List.set_cons_succ])
                refine wpAnyH_ready (rs := [7, 12]) (by kernel_rfl) (by simp) ?_
                refine AllReadyH.cons (o := _) rfl (fun K hK => ?_) (AllReadyH.cons (o := _) rfl (fun K hK => ?_) AllReadyH.nil)
                · skip
                  go_simp
                  (go_at_call 10; refine (exec_Push_ok pA qA sA A5 pn pc qn qc sn sc m5 d5 P Q (D.e.s ++ al) a.l cn _ (HRU.out.p.up (hbd)) (HRU.out.q.up (hbd)) (HRU.out.s.up (hbd)) (HI0.out.up (bel_trans hbw6 (hbd))) HFO.out.ex HYD.out (by omega) (by omega)).mono ?_; rintro e wp ⟨vp, va, vs9, vf, rfl, hPO, hbp⟩; obtain ⟨Bp, dp, rfl, -⟩ := nmP hPO.e.p HRU.out.p.1 (by omega); obtain ⟨Ba, da, rfl, -⟩ := nmA hPO.e.a HRU.out.q.1 (by omega); obtain ⟨Bs, ds, rfl, -⟩ := nmI hPO.e.s HN5.out (by omega); obtain ⟨Bf, df, rfl, -⟩ := nmI hPO.f HN6.out (by omega))
                  have hbbp := bel_trans (hbd) hbp
                  have hlB := (hbd).size
                  refine hK.out _ _ (hS _ hbbp) (fun hHeld => ?_)
                  clear hK K
                  (try simp only [Act.put, List.setIfInBounds_toArray, List.set_cons_zero, List.set_cons_succ])
                  (refine wpAnyH_tk 8 (some 140) (v := ?_) rfl rfl ?_ ?_; rotate_left; (focus (intro wq hSw; clear hSw; go_simp; all_goals (with_reducible rfl))); simp only [Act.put, List.setIfInBounds_toArray, List.set_cons_zero, List.set_cons_succ])
                  (refine wpAnyH_tk 9 (some 149) (v := ?_) rfl rfl ?_ ?_; rotate_left; (focus (intro wq hSw; clear hSw; go_simp; all_goals (with_reducible rfl))); simp only [Act.put, List.setIfInBounds_toArray, List.set_cons_zero, List.set_cons_succ])
                  (refine wpAnyH_tk 10 (some 150) (v := ?_) rfl rfl ?_ ?_; rotate_left; (focus (intro wq hSw; clear hSw; go_simp; all_goals (with_reducible rfl))); simp only [Act.put, List.setIfInBounds_toArray, List.set_cons_zero, List.set_cons_succ])
                  (refine wpAnyH_tk 11 (some 151) (v := ?_) rfl rfl ?_ ?_; rotate_left; (focus (intro wq hSw; clear hSw; go_simp; all_goals (with_reducible rfl))); simp only [Act.put, List.setIfInBounds_toArray, List.set_cons_zero, List.set_cons_succ])
                  refine wpAnyH_ready (rs := [12]) (by kernel_rfl) (by simp) ?_
                  refine AllReadyH.cons (o := _) rfl (fun K hK => ?_) AllReadyH.nil
                  go_simp
                  obtain ⟨g4, hg4⟩ : ∃ g, g = wp.heap.size := ⟨_, rfl⟩
                  obtain ⟨ZB, hZB⟩ : ∃ Zq : World, Zq = wp.alloc (.cells #[.slice none 0 0, .slice none 0 0, .slice none 0 0, .int .i64 0] 28) := ⟨_, rfl⟩
                  rw [← hg4, ← hZB]
                  have hza : Blk ZB g4 28 [.slice none 0 0, .slice none 0 0, .slice none 0 0, .int .i64 0] := by rw [hZB, hg4]; exact Blk.new _ 28 [.slice none 0 0, .slice none 0 0, .slice none 0 0, .int .i64 0]
                  have hbz : Below wp.heap.size wp ZB := by rw [hZB]; exact bel_alloc (Below.refl _ _)
                  have hbbz := bel_trans (hbbp) hbz
                  have hg4b : w6.heap.size ≤ g4 := by rw [hg4]; exact (hbbp).size
                  have hg4c : wp.heap.size ≤ g4 := by rw [hg4]; exact Nat.le_refl _
                  clear hg4 hZB
                  refine hK.out _ _ (hS _ hbbz) (fun hHeld => ?_)
                  clear hK K
                  (try simp only [Act.put, List.setIfInBounds_toArray, List.set_cons_zero, List.set_cons_succ])
                  refine wpAnyH_ready (rs := [13]) (by kernel_rfl) (by simp) ?_
                  refine AllReadyH.cons (o := _) rfl (fun K hK => ?_) AllReadyH.nil
                  have hzf := hza.frozen
                  have hzl := hza.lt
                  have z_0 := (hza.box).2 0 _ rfl; have z_1 := (hza.box).2 1 _ rfl; have z_2 := (hza.box).2 2 _ rfl; have z_3 := (hza.box).2 3 _ rfl
                  go_simp
                  clear hzf hzl z_0 z_1 z_2 z_3
                  have hz8 : Blk _ g4 28 [.slice Bp pn dp, .slice Ba qn da, .slice Bs n5 ds, .int .i64 (cn : Int)] := set4 hza (.slice Bp pn dp) (.slice Ba qn da) (.slice Bs n5 ds) (.int .i64 (cn : Int))
                  have hbb8 := bel_set4 (hbbz) hg4b (.slice Bp pn dp) (.slice Ba qn da) (.slice Bs n5 ds) (.int .i64 (cn : Int))
                  refine hK.out _ _ (hS _ hbb8) (fun hHeld => ?_)
                  clear hK K
                  (try simp only [Act.put, List.setIfInBounds_toArray, List.set_cons_zero, List.set_cons_succ])
                  (refine wpAnyH_tk 14 (some 11) (v := ?_) rfl rfl ?_ ?_; rotate_left; (focus (intro wq hSw; clear hSw; go_simp; all_goals (with_reducible rfl))); simp only [Act.put, List.setIfInBounds_toArray, List.set_cons_zero, List.set_cons_succ])
                  (refine wpAnyH_tk 15 (some 12) (v := ?_) rfl rfl ?_ ?_; rotate_left; (focus (intro wq hSw; clear hSw; go_simp; all_goals (with_reducible rfl))); simp only [Act.put, List.setIfInBounds_toArray, List.set_cons_zero, List.set_cons_succ])
                  refine wpAnyH_done (by kernel_rfl) ?_ _
                  go_wp2_with fail
                  go_meet
                  exact ⟨g4, Bp, Ba, Bs, Bf, dp, da, ds, df, rfl, rfl, rfl, hg4b, Lib.hid hz8, Lib.hid ((hPO.up (bel_set4 hbz hg4c (.slice Bp pn dp) (.slice Ba qn da) (.slice Bs n5 ds) (.int .i64 (cn : Int)))).mono hlB), hbb8⟩
                · skip
                  go_simp
                  obtain ⟨g4, hg4⟩ : ∃ g, g = Z.heap.size := ⟨_, rfl⟩
                  obtain ⟨ZB, hZB⟩ : ∃ Zq : World, Zq = Z.alloc (.cells #[.slice none 0 0, .slice none 0 0, .slice none 0 0, .int .i64 0] 28) := ⟨_, rfl⟩
                  rw [← hg4, ← hZB]
                  have hza : Blk ZB g4 28 [.slice none 0 0, .slice none 0 0, .slice none 0 0, .int .i64 0] := by rw [hZB, hg4]; exact Blk.new _ 28 [.slice none 0 0, .slice none 0 0, .slice none 0 0, .int .i64 0]
                  have hbz : Below Z.heap.size Z ZB := by rw [hZB]; exact bel_alloc (Below.refl _ _)
                  have hbbz := bel_trans (hbd) hbz
                  have hg4b : w6.heap.size ≤ g4 := by rw [hg4]; exact (hbd).size
                  clear hg4 hZB
                  refine hK.out _ _ (hS _ hbbz) (fun hHeld => ?_)
                  clear hK K
                  (try simp only [Act.put, List.setIfInBounds_toArray, List.set_cons_zero, List.set_cons_succ])
                  refine wpAnyH_ready (rs := [7]) (by kernel_rfl) (by simp) ?_
                  refine AllReadyH.cons (o := _) rfl (fun K hK => ?_) AllReadyH.nil
                  go_simp
                  (go_at_call 10; refine (exec_Push_ok pA qA sA A5 pn pc qn qc sn sc m5 d5 P Q (D.e.s ++ al) a.l cn _ (HRU.out.p.up (hbbz)) (HRU.out.q.up (hbbz)) (HRU.out.s.up (hbbz)) (HI0.out.up (bel_trans hbw6 (hbbz))) HFO.out.ex HYD.out (by omega) (by omega)).mono ?_; rintro e wp ⟨vp, va, vs9, vf, rfl, hPO, hbp⟩; obtain ⟨Bp, dp, rfl, -⟩ := nmP hPO.e.p HRU.out.p.1 (by omega); obtain ⟨Ba, da, rfl, -⟩ := nmA hPO.e.a HRU.out.q.1 (by omega); obtain ⟨Bs, ds, rfl, -⟩ := nmI hPO.e.s HN5.out (by omega); obtain ⟨Bf, df, rfl, -⟩ := nmI hPO.f HN6.out (by omega))
                  have hbbp := bel_trans (hbbz) hbp
                  have hlB := (hbbz).size
                  have hzp := hza.up hbp
                  have hgB := hza.lt
                  refine hK.out _ _ (hS _ hbbp) (fun hHeld => ?_)
                  clear hK K
                  (try simp only [Act.put, List.setIfInBounds_toArray, List.set_cons_zero, List.set_cons_succ])
                  (refine wpAnyH_tk 8 (some 140) (v := ?_) rfl rfl ?_ ?_; rotate_left; (focus (intro wq hSw; clear hSw; go_simp; all_goals (with_reducible rfl))); simp only [Act.put, List.setIfInBounds_toArray, List.set_cons_zero, List.set_cons_succ])
                  (refine wpAnyH_tk 9 (some 149) (v := ?_) rfl rfl ?_ ?_; rotate_left; (focus (intro wq hSw; clear hSw; go_simp; all_goals (with_reducible rfl))); simp only [Act.put, List.setIfInBounds_toArray, List.set_cons_zero, List.set_cons_succ])
                  (refine wpAnyH_tk 10 (some 150) (v := ?_) rfl rfl ?_ ?_; rotate_left; (focus (intro wq hSw; clear hSw; go_simp; all_goals (with_reducible rfl))); simp only [Act.put, List.setIfInBounds_toArray, List.set_cons_zero, List.set_cons_succ])
                  (refine wpAnyH_tk 11 (some 151) (v := ?_) rfl rfl ?_ ?_; rotate_left; (focus (intro wq hSw; clear hSw; go_simp; all_goals (with_reducible rfl))); simp only [Act.put, List.setIfInBounds_toArray, List.set_cons_zero, List.set_cons_succ])
                  refine wpAnyH_ready (rs := [13]) (by kernel_rfl) (by simp) ?_
                  refine AllReadyH.cons (o := _) rfl (fun K hK => ?_) AllReadyH.nil
                  have hzf := hzp.frozen
                  have hzl := hzp.lt
                  have z_0 := (hzp.box).2 0 _ rfl; have z_1 := (hzp.box).2 1 _ rfl; have z_2 := (hzp.box).2 2 _ rfl; have z_3 := (hzp.box).2 3 _ rfl
                  go_simp
                  clear hzf hzl z_0 z_1 z_2 z_3
                  have hz8 : Blk _ g4 28 [.slice Bp pn dp, .slice Ba qn da, .slice Bs n5 ds, .int .i64 (cn : Int)] := set4 hzp (.slice Bp pn dp) (.slice Ba qn da) (.slice Bs n5 ds) (.int .i64 (cn : Int))
                  have hbb8 := bel_set4 (hbbp) hg4b (.slice Bp pn dp) (.slice Ba qn da) (.slice Bs n5 ds) (.int .i64 (cn : Int))
                  refine hK.out _ _ (hS _ hbb8) (fun hHeld => ?_)
                  clear hK K
                  (try simp only [Act.put, List.setIfInBounds_toArray, List.set_cons_zero, List.set_cons_succ])
                  (refine wpAnyH_tk 14 (some 11) (v := ?_) rfl rfl ?_ ?_; rotate_left; (focus (intro wq hSw; clear hSw; go_simp; all_goals (with_reducible rfl))); simp only [Act.put, List.setIfInBounds_toArray, List.set_cons_zero, List.set_cons_succ])
                  (refine wpAnyH_tk 15 (some 12) (v := ?_) rfl rfl ?_ ?_; rotate_left; (focus (intro wq hSw; clear hSw; go_simp; all_goals (with_reducible rfl))); simp only [Act.put, List.setIfInBounds_toArray, List.set_cons_zero, List.set_cons_succ])
                  refine wpAnyH_done (by kernel_rfl) ?_ _
                  go_wp2_with fail
                  go_meet
                  exact ⟨g4, Bp, Ba, Bs, Bf, dp, da, ds, df, rfl, rfl, rfl, hg4b, Lib.hid hz8, Lib.hid ((hPO.set4 hgB (.slice Bp pn dp) (.slice Ba qn da) (.slice Bs n5 ds) (.int .i64 (cn : Int))).mono hlB), hbb8⟩
              case rest =>
              obtain ⟨g4, Bp, Ba, Bs, Bf, dp, da, ds, df, rfl, rfl, rfl, hg4b, HZ7, HPO7, hb7⟩ := hcut
              obtain ⟨V7, hV7⟩ : ∃ x, x = wc := ⟨_, rfl⟩
              subst hV7
              clear hS hS1 hS2 hS3
              have HA7 := Lib.hid (HAU.out.up hb7)
              have HX7 := Lib.hid (HXU.out.up hb7)
              have HB7 := Lib.hid (HBU.out.up hb7)
              have HW7 := Lib.hid (HWU.out.up hb7)
              have hbw7 := bel_trans hbw6 hb7
              have hsz7 := hbw7.size
              have hV71 : w.heap.size + 1 ≤ V7.heap.size := HB7.out.1
              have hsz67 : w6.heap.size ≤ V7.heap.size := hb7.size
              have hgxU : gx < w6.heap.size := HXU.out.lt
              have haU : ∀ g, (Value.slice aA an ac).ownBlock = some g → g < w6.heap.size := fun g e => (own_lt HAU.out g e).2
              have HAUB := Lib.hid haU
              have hwS : w.heap.size < w6.heap.size := HBU.out.1
              have hrf : IntsR V7 Bf n6 (freshL (D.e.s ++ al) a.l) := by obtain ⟨A', c', e', h'⟩ := nmI HPO7.out.f HN6.out (by omega); injection e' with e1 e2 e3; subst e1; exact h'
              have HRF := Lib.hid hrf
              clear hrf haU HAU HXU HRU HBU HWU hb7
              have hlal : al.length + n6 ≤ 900000000 := by rw [HLN.out.1]; omega
              have HLAL := Lib.hid hlal
              clear hlal
              go_upto_region 23 with (first | (go_at_call 11; refine (law23_num _ _).mono ?_; rintro e w' ⟨rfl, rfl⟩) | (at_builtin; refine wpList_appIR rfl (.tmp 155) (.tmp 156) rfl rfl (w.heap.size + 1) (.slice aA an ac) al rfl HA7.out Bf n6 df (freshL (D.e.s ++ al) a.l) rfl HRF.out HLAL.out (by omega) ?_; intro v8 W8 hown8 hg8 hb8 hat8; (obtain ⟨n8', hn8'⟩ : ∃ n, (al ++ (freshL (D.e.s ++ al) a.l)).length = n := ⟨_, rfl⟩); (have hn8b : n8' ≤ an + n6 := by rw [← hn8', List.length_append, HLN.out.1, HN6.out]; exact Nat.le_refl _); (obtain ⟨A8, c8, e8, -⟩ := nmI hown8 hn8' (by omega)); (have HN8 := Lib.hid hn8'); clear hn8'; subst e8))
              have HA8 := Lib.hid hown8
              have HYO8 := Lib.hid (HPO7.out.e.grLow HAUB.out hg8)
              have HZ8 := Lib.hid (HZ7.out.grown2 hg8 (own_apart HA7.out HZ7.out (by decide)))
              have HX8 := Lib.hid (HX7.out.grown2 hg8 (own_apart HA7.out HX7.out (by decide)))
              have HB8 := Lib.hid (HB7.out.grO (fun e => by have := (own_lt HA7.out _ e).1; omega) hg8)
              have HW8 := Lib.hid (HW7.out.gro hg8 (fun g e => .inl (.inl e)) (own_apart2 HW7.out.row HA7.out (by decide)))
              have hbw8 : Below w.heap.size w W8 := Below.trans hbw7 (hb8.mono (Nat.le_succ _))
              have hsz8 := hbw8.size
              have hsz78 := hg8.size
              have HAT8 := Lib.hid hat8
              clear hown8 hg8 hb8 hat8 HA7 HX7 HZ7 HB7 HW7 HPO7 HRF hbw7
              obtain ⟨n7, hn7⟩ : ∃ n, FP.length = n := ⟨_, rfl⟩
              obtain ⟨n8, hn8⟩ : ∃ n, FQ.length = n := ⟨_, rfl⟩
              have hn7l : n7 ≤ 4096 := by rw [← hn7]; exact HMF.out.1.1
              have hn8l : n8 ≤ 4096 := by rw [← hn8]; exact HMF.out.2.1
              have HN7 := Lib.hid hn7
              have HN9 := Lib.hid hn8
              clear hn7 hn8
              skip
              obtain ⟨rA, rc, eR, hRd, -, -⟩ := HW8.out.read (by rw [HL2.out]; omega)
              rw [HL2.out] at eR hRd
              injection eR with eR1 eR2 eR3
              subst eR1
              subst eR3
              clear eR2
              have HRD := Lib.hid hRd
              clear hRd
              have HYR8 := Lib.hid (HYO8.out.rd HPQ.out.1 HPQ.out.2 HN5.out (by omega) (by omega) (by omega))
              have zl := HZ8.out.lt
              have z_0 := (HZ8.out.box).2 0 _ rfl; have z_1 := (HZ8.out.box).2 1 _ rfl; have z_2 := (HZ8.out.box).2 2 _ rfl; have z_3 := (HZ8.out.box).2 3 _ rfl
              go_upto_region 24 with (go_at_call 12; refine (exec_Step_ok Bp Ba Bs hA pn dp qn da n5 ds hn hc P Q ((D.e.s ++ al) ++ freshL (D.e.s ++ al) a.l) hd2 cn FP FQ N _ HYR8.out.p HYR8.out.q HYR8.out.s HRD.out HEX1.out (hdB_iff.2 HG2.out.2) (by omega) (by omega) HST.out).mono ?_; rintro e w9 ⟨vp, va, vs9, rfl, hSO, hb9⟩; obtain ⟨Cp, ep, rfl, -⟩ := nmP hSO.p HN7.out (by omega); obtain ⟨Ca, ea, rfl, -⟩ := nmA hSO.a HN9.out (by omega); obtain ⟨Cs, es, rfl, -⟩ := nmI hSO.s HN5.out (by omega); have HSO := Lib.hid hSO; clear hSO zl z_0 z_1 z_2 z_3; have hz9 := HZ8.out.up hb9; have zf := hz9.frozen; have zl := hz9.lt; have z_0 := (hz9.box).2 0 _ rfl; have z_1 := (hz9.box).2 1 _ rfl; have z_2 := (hz9.box).2 2 _ rfl; have z_3 := (hz9.box).2 3 _ rfl; clear hz9)
              clear zf zl z_0 z_1 z_2 z_3
              refine wp_world (fun WA hWA => ?_)
              have hgB : g4 < W8.heap.size := HZ8.out.lt
              have hgxB : gx < W8.heap.size := HX8.out.lt
              have hxz : gx ≠ g4 := by omega
              have HZ9 := Lib.hid (HZ8.out.up hb9)
              have HA9 := Lib.hid (HA8.out.up hb9)
              have HW9 := Lib.hid (HW8.out.up hb9)
              have HZA : Hid (Blk WA g4 28 [.slice Cp n7 ep, .slice Ca n8 ea, .slice Cs n5 es, .int .i64 ((cn : Int) + (N : Int))]) := Lib.hid (by rw [hWA]; exact set4 HZ9.out _ _ _ _)
              have HXA := Lib.hid (show Blk WA gx _ _ from by rw [hWA]; exact (HX8.out.up hb9).far4 hxz _ _ _ _)
              have HBA := Lib.hid (show BoxR WA _ _ from by rw [hWA]; exact (HB8.out.up hb9).set4F (by omega) _ _ _ _)
              have HAA : Hid (OwnI WA (w.heap.size + 1) (.slice A8 n8' c8) (al ++ (freshL (D.e.s ++ al) a.l))) := Lib.hid (by rw [hWA]; exact World.ownsRow.kept HA9.out (grown_set4 (World.grownBy.refl _ _) _ _ _ _) (.inr (own_apart HA9.out HZ9.out (by decide))))
              have HWA := Lib.hid (show HeldO WA _ _ _ _ _ from by rw [hWA]; exact HW9.out.gro (grown_set4 (World.grownBy.refl _ _) _ _ _ _) (fun g e => .inr (by injection e with e; omega)) (.inr (own_apart HW9.out.row HZ9.out (by decide))))
              have HSA : Hid (ExO WA W8.heap.size (.slice Cp n7 ep) (.slice Ca n8 ea) (.slice Cs n5 es) FP FQ ((D.e.s ++ al) ++ freshL (D.e.s ++ al) a.l)) := Lib.hid (by rw [hWA]; exact HSO.out.set4 hgB _ _ _ _)
              have hbwA : Below w.heap.size w WA := by rw [hWA]; exact bel_set4 (bel_trans hbw8 hb9) (by omega) _ _ _ _
              clear hWA HZ9 HA9 HW9 HZ8 HA8 HW8 HX8 HB8 HSO hb9 HYO8 HYR8 HRD
              have zl := HZA.out.lt
              have z_0 := (HZA.out.box).2 0 _ rfl; have z_1 := (HZA.out.box).2 1 _ rfl; have z_2 := (HZA.out.box).2 2 _ rfl; have z_3 := (HZA.out.box).2 3 _ rfl
              have hxA := HXA.out
              have xf := hxA.frozen
              have xl := hxA.lt
              have x_0 := (hxA.box).2 0 _ rfl; have x_1 := (hxA.box).2 1 _ rfl; have x_2 := (hxA.box).2 2 _ rfl; have x_3 := (hxA.box).2 3 _ rfl
              clear hxA
              have hes : n5 ≤ es := HSA.out.s.cap
              have HNB : Hid (HeldO WA w.heap.size (fun b => (Value.slice A8 n8' c8).ownBlock = some b ∨ b = gx) (.slice hA hn hc) vs hd2) := Lib.hid (HWA.out.wide (fun g h => .inl (h.elim (fun e => (HAT8.out.elim (fun h8 => .inl (.inl (by rw [← h8]; exact e))) (fun h8 => .inr (by rw [h8] at e; injection e with e; omega)))) (fun e => .inl (.inr e)))))
              go_wp2_with (go_at_call 11; refine (law23_num _ _).mono ?_; rintro e w' ⟨rfl, rfl⟩)
              (first | (go_round; (case rel => exact ⟨k + 1, al ++ (freshL (D.e.s ++ al) a.l), A8, n8', c8, hd2, vs, hA, hn, hc, Cp, n7, ep, Ca, n8, ea, Cs, n5, es, FP, FQ, cn + N, by omega, by go_num, rfl, rfl, Lib.hid (World.ownsRow.kept HAA.out (grown_set4 (World.grownBy.refl _ _) _ _ _ _) (.inr (own_apart HAA.out HXA.out (by decide)))), Lib.hid (HNB.out.gro (grown_set4 (World.grownBy.refl _ _) _ _ _ _) (fun g e => .inr (by injection e with e; exact e.symm)) (.inr (own_apart HNB.out.row HXA.out (by decide)))), Lib.hid ⟨HN8.out, HL2.out⟩, Lib.hid (by rw [Int.natCast_add]; exact set4 HXA.out _ _ _ _), Lib.hid (by rw [← List.append_assoc]; exact (HSA.out.set4 hgxB _ _ _ _).rd HN7.out HN9.out HN5.out (by omega) (by omega) (by omega)), HFN, hn7l, hn8l, by omega, by omega, by omega, hes, by omega, Lib.hid (HBA.out.set4F hgSX _ _ _ _), bel_set4 hbwA hgxw _ _ _ _⟩); (case measure => (simp [intOf] <;> omega))) | (go_roundw; (case rel => exact ⟨k + 1, al ++ (freshL (D.e.s ++ al) a.l), A8, n8', c8, hd2, vs, hA, hn, hc, Cp, n7, ep, Ca, n8, ea, Cs, n5, es, FP, FQ, cn + N, by omega, by go_num, rfl, rfl, Lib.hid (World.ownsRow.kept HAA.out (grown_set4 (World.grownBy.refl _ _) _ _ _ _) (.inr (own_apart HAA.out HXA.out (by decide)))), Lib.hid (HNB.out.gro (grown_set4 (World.grownBy.refl _ _) _ _ _ _) (fun g e => .inr (by injection e with e; exact e.symm)) (.inr (own_apart HNB.out.row HXA.out (by decide)))), Lib.hid ⟨HN8.out, HL2.out⟩, Lib.hid (by rw [Int.natCast_add]; exact set4 HXA.out _ _ _ _), Lib.hid (by rw [← List.append_assoc]; exact (HSA.out.set4 hgxB _ _ _ _).rd HN7.out HN9.out HN5.out (by omega) (by omega) (by omega)), HFN, hn7l, hn8l, by omega, by omega, by omega, hes, by omega, Lib.hid (HBA.out.set4F hgSX _ _ _ _), bel_set4 hbwA hgxw _ _ _ _⟩); (case measure => (simp [intOf] <;> omega))) | (refine ⟨?_, by simp [intOf] <;> omega⟩; (repeat apply Exists.intro); refine ⟨?rel, ?fr⟩; (case fr => ((repeat' apply And.intro) <;> rfl)); (case rel => exact ⟨k + 1, al ++ (freshL (D.e.s ++ al) a.l), A8, n8', c8, hd2, vs, hA, hn, hc, Cp, n7, ep, Ca, n8, ea, Cs, n5, es, FP, FQ, cn + N, by omega, by go_num, rfl, rfl, Lib.hid (World.ownsRow.kept HAA.out (grown_set4 (World.grownBy.refl _ _) _ _ _ _) (.inr (own_apart HAA.out HXA.out (by decide)))), Lib.hid (HNB.out.gro (grown_set4 (World.grownBy.refl _ _) _ _ _ _) (fun g e => .inr (by injection e with e; exact e.symm)) (.inr (own_apart HNB.out.row HXA.out (by decide)))), Lib.hid ⟨HN8.out, HL2.out⟩, Lib.hid (by rw [Int.natCast_add]; exact set4 HXA.out _ _ _ _), Lib.hid (by rw [← List.append_assoc]; exact (HSA.out.set4 hgxB _ _ _ _).rd HN7.out HN9.out HN5.out (by omega) (by omega) (by omega)), HFN, hn7l, hn8l, by omega, by omega, by omega, hes, by omega, Lib.hid (HBA.out.set4F hgSX _ _ _ _), bel_set4 hbwA hgxw _ _ _ _⟩)))
    · skip
      as_aux_lemma =>
        go_upto_region 7 with fail
        go_cut [42] from 34 to 42 (fun s42 wx => s42 = .bool false ∧ wk = wx)
        case first =>
          go_wp2_with fail
          all_goals
            go_meet
            exact ⟨by first | rfl | (have h9 : ¬ ((k : Int) < 12) := (by omega); rw [decide_eq_false h9]), rfl⟩
        case rest =>
        obtain ⟨e1, e2⟩ := hcut
        subst e1
        subst e2
        have hfx := exB_iff.1 HFO.out.ex
        have hcs : cn ≤ sn := by have h1 := hfx.2.2.2; rw [HRX.out.s.1] at h1; omega
        clear hfx
        have har : IntsR wk aA an al := by obtain ⟨A', c', e', h'⟩ := nmI HAL.out HLN.out.1 (by omega); injection e' with e1 e2 e3; subst e1; exact h'
        have HAR := Lib.hid har
        clear har
        have hlal : D.e.s.length + an ≤ 900000000 := by have h1 := HRX.out.s.1; rw [List.length_append, HLN.out.1] at h1; omega
        have HLAL := Lib.hid hlal
        clear hlal
        go_upto_region 27 with fail
        go_cut [13] from 169 to 174 (fun s13 wx => ∃ (zA : Option Addr) (zc : Nat), s13 = .slice zA sn zc ∧ Hid (IntsR wx zA sn (D.e.s ++ al)) ∧ Below wk.heap.size wk wx)
        case first =>
          go_wp2_with (first | (go_at_call 13; refine (ref0_CopyNumbers tA tn tc D.e.s _ (HS.out.up hbw) (by omega)).mono ?_; rintro e w4 ⟨v4, rfl, ho4, hb4⟩; have HO4 := Lib.hid ho4; clear ho4) | (at_builtin; refine wpList_appIR rfl (.tmp 172) (.tmp 173) rfl rfl wk.heap.size v4 D.e.s rfl HO4.out aA an ac al rfl (HAR.out.up hb4) HLAL.out hb4.size ?_; intro v5 W5 hown5 hg5 hb5 hat5; (obtain ⟨zA, zc, e5, hz5⟩ := nmI hown5 HRX.out.s.1 (by omega)); subst e5))
          go_meet
          exact ⟨zA, zc, rfl, Lib.hid hz5, Below.trans hb4 hb5⟩
        case rest =>
        obtain ⟨zA, zc, rfl, HSN5, hbk5⟩ := hcut
        obtain ⟨W5, hW5⟩ : ∃ x, x = wc := ⟨_, rfl⟩
        subst hW5
        clear hg0 b_0 b_1 b_2 b_3 b_4
        have HAL5 := Lib.hid (HAL.out.up hbk5)
        have HHD5 := Lib.hid (HHD.out.up hbk5)
        have HX5 := Lib.hid (HX.out.up hbk5)
        have HRX5 := Lib.hid (HRX.out.up hbk5)
        have HB5 := Lib.hid (HB.out.up hbk5)
        have hbw5 := bel_trans hbw hbk5
        clear HAL HHD HX HRX HB HAR HLAL hbk5 hbw
        have hg0 := HB5.out.1
        have b_0 := (HB5.out).2 0 _ rfl; have b_1 := (HB5.out).2 1 _ rfl; have b_2 := (HB5.out).2 2 _ rfl; have b_3 := (HB5.out).2 3 _ rfl; have b_4 := (HB5.out).2 4 _ rfl
        go_upto_region 29 with (go_at_call 14; refine (ref0_CopyTable uA un uc D.e.p vA vn vc D.e.q _ (HP.out.up hbw5) (HQ.out.up hbw5) (by omega) (by omega)).mono ?_; rintro e w6 ⟨vp, va, rfl, hop, hoa, hod, hb6⟩; obtain ⟨A1, c1, rfl, hr1⟩ := nmP hop HP.out.1 (by omega); obtain ⟨B1, d1, rfl, hr2⟩ := nmA hoa HQ.out.1 (by omega))
        clear hg0 b_0 b_1 b_2 b_3 b_4
        refine wp_world (fun W6 hW6 => ?_)
        obtain ⟨gt, hgt⟩ : ∃ g, g = w6.heap.size := ⟨_, rfl⟩
        have HT6 : Hid (Blk W6 gt 25 [.slice A1 un c1, .slice B1 vn d1]) := Lib.hid (by rw [hW6, hgt]; exact Blk.new w6 25 [.slice A1 un c1, .slice B1 vn d1])
        have hb66 : Below w6.heap.size w6 W6 := by rw [hW6]; exact bel_alloc (Below.refl _ _)
        have hgt5 : W5.heap.size ≤ gt := by rw [hgt]; exact hb6.size
        rw [← hgt]
        clear hW6 hgt
        have HTR6 := Lib.hid (And.intro (hr1.up hb66) (hr2.up hb66))
        have hb56 := bel_trans hb6 hb66
        clear hr1 hr2 hop hoa hod hb6 hb66
        have HB6 := Lib.hid (HB5.out.up hb56)
        have hg0 := HB6.out.1
        have b_0 := (HB6.out).2 0 _ rfl; have b_1 := (HB6.out).2 1 _ rfl; have b_2 := (HB6.out).2 2 _ rfl; have b_3 := (HB6.out).2 3 _ rfl; have b_4 := (HB6.out).2 4 _ rfl
        go_wp2_with fail
        clear hg0 b_0 b_1 b_2 b_3 b_4 HB6
        go_loopw [15] (fun ix wr => ∃ (i : Nat) (A1 : Option Addr) (n1 c1 : Nat) (B1 : Option Addr) (m1 d1 : Nat) (TP : List PairD) (TQ : List AcctD), c0 ≤ i ∧ i ≤ cn ∧ ix = .int .i64 i ∧ Hid (Blk wr gt 25 [.slice A1 n1 c1, .slice B1 m1 d1]) ∧ Hid (PairsR wr A1 n1 TP ∧ AcctsR wr B1 m1 TQ) ∧ Hid (foldX hd (((D.e.s ++ al).take i).drop c0) D.e.p D.e.q = (TP, TQ)) ∧ Hid (MayT TP TQ) ∧ Below W5.heap.size W5 wr) (fun ix _ => cn - (intOf ix).toNat)
        case atStart => exact ⟨c0, A1, un, c1, B1, vn, d1, D.e.p, D.e.q, Nat.le_refl _, HFO.out.lo, rfl, HT6, HTR6, Lib.hid (by rw [List.drop_eq_nil_of_le (by rw [List.length_take]; omega)]; rfl), Lib.hid (exB_iff.1 HYE.out).1, hb56⟩
        case round =>
          clear HT6 HTR6 hb56
          obtain ⟨i, A1, n1, c1, B1, m1, d1, TP, TQ, hci, hicn, rfl, HT, HTR, HFX, HMT, hb7⟩ := hrel
          (obtain ⟨w7, hw7⟩ : ∃ x, x = wr := ⟨_, rfl⟩); subst hw7
          have hx7 := HX5.out.up hb7
          have xl := hx7.lt
          have x_0 := (hx7.box).2 0 _ rfl; have x_1 := (hx7.box).2 1 _ rfl; have x_2 := (hx7.box).2 2 _ rfl; have x_3 := (hx7.box).2 3 _ rfl
          clear hx7
          by_cases hin : i < cn
          · skip
            have his : i < sn := by omega
            obtain ⟨d, hdd⟩ : ∃ d, nth (D.e.s ++ al) i = d := ⟨_, rfl⟩
            have hkd := HFO.out.has i hci hin
            rw [hdd] at hkd
            obtain ⟨kp, hkp⟩ : ∃ n, kposH hd d = n := ⟨_, rfl⟩
            have hkl := khasH_lt hkp hkd
            rw [HLN.out.2] at hkl
            obtain ⟨hkn, hkdi⟩ := hkl
            have hsrt := HFO.out.may.sorted
            have hiff : ∀ z, z < hn → ((hth hd z).di = d ↔ z = kp) := fun z hz => ⟨fun e => by rw [← hkp]; exact (kposH_eqX hsrt (by rw [HLN.out.2]; exact hz) e).symm, fun e => by rw [e]; exact hkdi⟩
            have HIF := Lib.hid hiff
            have HDD := Lib.hid hdd
            have HKP := Lib.hid hkp
            clear hkd hkp hsrt hiff hkdi
            have hhn8 : hn ≤ 80000 := by omega
            have hgi : decide (sn ≤ i) = false := by simp; omega
            go_wp2_with fail
            clear xl x_0 x_1 x_2 x_3
            clear hgi
            go_loopw [16, 17] (fun fx kx wr => ∃ (z : Nat) (f : Bool) (A2 : Option Addr) (n2 c2 : Nat) (B2 : Option Addr) (m2 d2 : Nat) (UP : List PairD) (UQ : List AcctD), z ≤ hn ∧ kx = .int .i64 z ∧ fx = .bool f ∧ f = decide (kp < z) ∧ Hid (Blk wr gt 25 [.slice A2 n2 c2, .slice B2 m2 d2]) ∧ Hid (PairsR wr A2 n2 UP ∧ AcctsR wr B2 m2 UQ) ∧ Hid ((f = false → UP = TP ∧ UQ = TQ) ∧ (f = true → runT (hth hd kp).b.tx TP TQ = (UP, UQ))) ∧ Below W5.heap.size W5 wr) (fun _ kx _ => hn - (intOf kx).toNat)
            case atStart => exact ⟨0, false, A1, n1, c1, B1, m1, d1, TP, TQ, Nat.zero_le _, rfl, rfl, by simp, HT, HTR, Lib.hid ⟨fun _ => ⟨rfl, rfl⟩, fun h => by cases h⟩, hb7⟩
            case round =>
              obtain ⟨z, f, A2, n2, c2, B2, m2, d2, UP, UQ, hz, rfl, rfl, hf, HT2, HTR2, HU, hb8⟩ := hrel
              (obtain ⟨w8, hw8⟩ : ∃ x, x = wr := ⟨_, rfl⟩); subst hw8
              have HFF := Lib.hid hf
              clear hf
              by_cases hzn : z < hn
              · skip
                obtain ⟨rA, rc, eR, hRd, -, -⟩ := (HHD5.out.up hb8).read (by rw [HLN.out.2]; omega)
                rw [HLN.out.2] at eR hRd
                injection eR with eR1 eR2 eR3
                subst eR1
                subst eR3
                clear eR2
                obtain ⟨hb9, hf9, eA, hb9l, hcc⟩ := hRd.2.2 (by omega)
                subst eA
                obtain ⟨Bq, mq, dq, ⟨g0, g1, g2, g3⟩, hTX⟩ := hcc z hzn
                obtain ⟨zd, hzd⟩ : ∃ y, (hth hd z).di = y := ⟨_, rfl⟩
                rw [hzd] at g0
                have HZD := Lib.hid hzd
                have HTX := Lib.hid hTX
                have HG3 := Lib.hid (And.intro g1 (And.intro g2 g3))
                clear hcc hRd hTX hzd g1 g2 g3
                obtain ⟨sb, so, eS, hsb, hsc⟩ := (HSN5.out.up hb8).2.2 (by omega)
                subst eS
                have s0 := hsc i his
                rw [HDD.out] at s0
                clear hsc
                obtain ⟨S, hSd⟩ : ∃ S : World → Prop, S = fun Q => Q.cell? ⟨hb9, hf9 + z * 4, none⟩ = some (.int .i64 zd) ∧ Q.cell? ⟨sb, so + i, none⟩ = some (.int .i64 d) := ⟨_, rfl⟩
                have hS1 : ∀ Q, S Q → Q.cell? ⟨hb9, hf9 + z * 4, none⟩ = some (.int .i64 zd) := fun Q h => by rw [hSd] at h; exact h.1
                have hS2 : ∀ Q, S Q → Q.cell? ⟨sb, so + i, none⟩ = some (.int .i64 d) := fun Q h => by rw [hSd] at h; exact h.2
                have hbd : Below w8.heap.size w8 w8.drew := bel_drew (Below.refl _ _)
                have hS0 : S w8.drew := by rw [hSd]; exact ⟨(hbd.cell (p := ⟨hb9, hf9 + z * 4, none⟩) hb9l).trans g0, (hbd.cell (p := ⟨sb, so + i, none⟩) hsb).trans s0⟩
                clear hSd g0 s0
                by_cases hze : zd = d
                · skip
                  have q3 : (zd != d) = false := by simp [hze]
                  obtain rfl : z = kp := (HIF.out z hzn).1 (by rw [HZD.out]; exact hze)
                  obtain rfl : f = false := by rw [HFF.out]; simp
                  go_upto_region 38 with fail
                  refine wp_region_held_drew (S := S) (by kernel_rfl) hS0 (fun hHeld => ?_)
                  clear hS0
                  generalize w8.drew = Z at *
                  (refine wpAnyH_tk 0 (some 198) (v := ?_) rfl rfl ?_ ?_; rotate_left; (focus (intro wq hSw; clear hSw; go_simp; all_goals (with_reducible rfl))); simp only [Act.put, List.setIfInBounds_toArray, List.set_cons_zero, List.set_cons_succ])
                  (refine wpAnyH_tk 1 (some 199) (v := ?_) rfl rfl ?_ ?_; rotate_left; (focus (intro wq hSw; clear hSw; go_simp; all_goals (with_reducible rfl))); simp only [Act.put, List.setIfInBounds_toArray, List.set_cons_zero, List.set_cons_succ])
                  (refine wpAnyH_tk 2 (some 200) (v := ?_) rfl rfl ?_ ?_; rotate_left; (focus (intro wq hSw; clear hSw; go_simp; all_goals (with_reducible rfl))); simp only [Act.put, List.setIfInBounds_toArray, List.set_cons_zero, List.set_cons_succ])
                  (refine wpAnyH_tk 3 (some 201) (v := ?_) rfl rfl ?_ ?_; rotate_left; (focus (intro wq hSw; clear hSw; go_simp; all_goals (with_reducible rfl))); simp only [Act.put, List.setIfInBounds_toArray, List.set_cons_zero, List.set_cons_succ])
                  (refine wpAnyH_tk 4 (some 202) (v := ?_) rfl rfl ?_ ?_; rotate_left; (focus (intro wq hSw; have q1 := hS1 wq hSw; clear hSw; go_simp; all_goals (with_reducible rfl))); simp only [Act.put, List.setIfInBounds_toArray, List.set_cons_zero, List.set_cons_succ])
                  (refine wpAnyH_tk 5 (some 203) (v := ?_) rfl rfl ?_ ?_; rotate_left; (focus (intro wq hSw; clear hSw; go_simp; all_goals (with_reducible rfl))); simp only [Act.put, List.setIfInBounds_toArray, List.set_cons_zero, List.set_cons_succ])
                  (refine wpAnyH_tk 6 (some 204) (v := ?_) rfl rfl ?_ ?_; rotate_left; (focus (intro wq hSw; clear hSw; go_simp; all_goals (with_reducible rfl))); simp only [Act.put, List.setIfInBounds_toArray, List.set_cons_zero, List.set_cons_succ])
                  (refine wpAnyH_tk 7 (some 205) (v := ?_) rfl rfl ?_ ?_; rotate_left; (focus (intro wq hSw; clear hSw; go_simp; all_goals (with_reducible rfl))); simp only [Act.put, List.setIfInBounds_toArray, List.set_cons_zero, List.set_cons_succ])
                  (refine wpAnyH_tk 8 (some 206) (v := ?_) rfl rfl ?_ ?_; rotate_left; (focus (intro wq hSw; have q1 := hS2 wq hSw; clear hSw; go_simp; all_goals (with_reducible rfl))); simp only [Act.put, List.setIfInBounds_toArray, List.set_cons_zero, List.set_cons_succ])
                  (refine wpAnyH_tk 9 (some 207) (v := ?_) rfl rfl ?_ ?_; rotate_left; (focus (intro wq hSw; clear hSw; go_simp; all_goals (with_reducible rfl))); simp only [Act.put, List.setIfInBounds_toArray, List.set_cons_zero, List.set_cons_succ])
                  refine wpAnyH_done (by kernel_rfl) ?_ _
                  clear hHeld hS1 hS2
                  have hb89 := bel_trans hb8 hbd
                  have HT9 := Lib.hid (HT2.out.up hbd)
                  have HTR9 := Lib.hid (And.intro (HTR2.out.1.up hbd) (HTR2.out.2.up hbd))
                  have HEU := Lib.hid (HU.out.1 rfl)
                  clear HU
                  obtain ⟨xb, hxb⟩ : ∃ b, (hth hd z).b = b := ⟨_, rfl⟩
                  have HBM : Hid (BmT xb) := Lib.hid (by rw [← hxb]; exact bmT_iff.1 (HFO.out.may z (by rw [HLN.out.2]; exact hzn)).2.1)
                  rw [hxb] at HTX HG3
                  have HXB := Lib.hid hxb
                  clear hxb
                  have HMU : Hid (MayT UP UQ) := Lib.hid (by rw [HEU.out.1, HEU.out.2]; exact HMT.out)
                  obtain ⟨⟨LF, QF⟩, hR⟩ : ∃ r, runT xb.tx UP UQ = r := ⟨_, rfl⟩
                  obtain ⟨N, hN⟩ : ∃ n, runN xb.tx UP UQ = n := ⟨_, rfl⟩
                  have HMF : Hid (MayT LF QF) := Lib.hid (by have h9 := runT_may xb.tx HMU.out; rw [hR] at h9; exact h9)
                  have HR := Lib.hid hR
                  have HN := Lib.hid hN
                  clear hR hN
                  obtain ⟨n7, hn7⟩ : ∃ n, LF.length = n := ⟨_, rfl⟩
                  obtain ⟨n8, hn8⟩ : ∃ n, QF.length = n := ⟨_, rfl⟩
                  have hn7l : n7 ≤ 4096 := by rw [← hn7]; exact HMF.out.1.1
                  have hn8l : n8 ≤ 4096 := by rw [← hn8]; exact HMF.out.2.1
                  have HN7 := Lib.hid hn7
                  have HN8 := Lib.hid hn8
                  clear hn7 hn8
                  have HTXZ := Lib.hid (HTX.out.up hbd)
                  have hgtZ : gt < Z.heap.size := HT9.out.lt
                  obtain ⟨S, hSd⟩ : ∃ S : World → Prop, S = fun Q => Q.rangeAt gt 0 [.slice A2 n2 c2, .slice B2 m2 d2] ∧ Q.rangeAt hb9 (hf9 + z * 4 + 1) [.int .i64 xb.au, .int .i64 xb.n, .slice Bq mq dq] := ⟨_, rfl⟩
                  have hS1 : ∀ Q, S Q → Q.rangeAt gt 0 [.slice A2 n2 c2, .slice B2 m2 d2] := fun Q h => by rw [hSd] at h; exact h.1
                  have hS2 : ∀ Q, S Q → Q.rangeAt hb9 (hf9 + z * 4 + 1) [.int .i64 xb.au, .int .i64 xb.n, .slice Bq mq dq] := fun Q h => by rw [hSd] at h; exact h.2
                  have hS : ∀ Q, Below Z.heap.size Z Q → S Q := fun Q hQ => by
                    have hq := bel_trans hbd hQ
                    rw [hSd]
                    refine ⟨(HT9.out.up hQ).rng, fun r u hu => ?_⟩
                    have hr4 : r < 3 := (List.getElem?_eq_some_iff.1 hu).1
                    match r, hr4, hu with
                    | 0, _, hu => injection hu with hu; subst hu; exact (hq.cell (p := ⟨hb9, hf9 + z * 4 + 1, none⟩) hb9l).trans HG3.out.1
                    | 1, _, hu => injection hu with hu; subst hu; exact (hq.cell (p := ⟨hb9, hf9 + z * 4 + 2, none⟩) hb9l).trans HG3.out.2.1
                    | 2, _, hu => injection hu with hu; subst hu; exact (hq.cell (p := ⟨hb9, hf9 + z * 4 + 3, none⟩) hb9l).trans HG3.out.2.2
                  clear hSd
                  go_upto_region 39 with fail
                  go_cut [18, 19, 20] from 208 to 218 (fun s18 s19 s20 wx => ∃ (g : Nat) (Bp Ba : Option Addr) (dp da : Nat), s18 = .pointer (some ⟨g, 0, none⟩) ∧ s19 = .int .i64 N ∧ s20 = .int .i64 0 ∧ Z.heap.size ≤ g ∧ Hid (Blk wx g 25 [.slice Bp n7 dp, .slice Ba n8 da]) ∧ Hid (PairsR wx Bp n7 LF ∧ AcctsR wx Ba n8 QF) ∧ Hid (FarN Bp n7 gt ∧ FarN Ba n8 gt) ∧ Below Z.heap.size Z wx)
                  case first =>
                    refine wp_region_held_drew (S := S) (by kernel_rfl) (hS _ (bel_drew (Below.refl _ _))) (fun hHeld => ?_)
                    have hbq : Below Z.heap.size Z Z.drew := bel_drew (Below.refl _ _)
                    generalize Z.drew = Zq at *
                    refine wpAnyH_takeD (i := 0) (d := (some 209)) (v := .agg ([.slice A2 n2 c2, .slice B2 m2 d2]).toArray) rfl rfl (by kernel_rfl) (by kernel_rfl) (by kernel_rfl) (fun _ _ _ h => h) (yieldsIf_load_mid (by rfl) 25 _ rfl gt 0 (by simp [Act.eval, Act.put]) ([.slice A2 n2 c2, .slice B2 m2 d2]) _ (hS1) Try.underlying25 (by rfl) (by kernel_rfl)) (by assumption) ?_
                    simp only [Act.put, List.setIfInBounds_toArray, List.set_cons_zero, List.set_cons_succ]
                    (refine wpAnyH_tk 1 (some 210) (v := ?_) rfl rfl ?_ ?_; rotate_left; (focus (intro wq hSw; clear hSw; go_simp; all_goals (with_reducible rfl))); simp only [Act.put, List.setIfInBounds_toArray, List.set_cons_zero, List.set_cons_succ])
                    (refine wpAnyH_tk 2 (some 211) (v := ?_) rfl rfl ?_ ?_; rotate_left; (focus (intro wq hSw; clear hSw; go_simp; all_goals (with_reducible rfl))); simp only [Act.put, List.setIfInBounds_toArray, List.set_cons_zero, List.set_cons_succ])
                    (refine wpAnyH_tk 3 (some 212) (v := ?_) rfl rfl ?_ ?_; rotate_left; (focus (intro wq hSw; clear hSw; go_simp; all_goals (with_reducible rfl))); simp only [Act.put, List.setIfInBounds_toArray, List.set_cons_zero, List.set_cons_succ])
                    (refine wpAnyH_tk 4 (some 213) (v := ?_) rfl rfl ?_ ?_; rotate_left; (focus (intro wq hSw; clear hSw; go_simp; all_goals (with_reducible rfl))); simp only [Act.put, List.setIfInBounds_toArray, List.set_cons_zero, List.set_cons_succ])
                    refine wpAnyH_takeD (i := 5) (d := (some 214)) (v := .agg ([.int .i64 xb.au, .int .i64 xb.n, .slice Bq mq dq]).toArray) rfl rfl (by kernel_rfl) (by kernel_rfl) (by kernel_rfl) (fun _ _ _ h => h) (yieldsIf_load_mid (by rfl) 42 _ rfl hb9 (hf9 + z * 4 + 1) (by simp [Act.eval, Act.put]) ([.int .i64 xb.au, .int .i64 xb.n, .slice Bq mq dq]) _ (hS2) Try.underlying42 (by rfl) (by kernel_rfl)) (by assumption) ?_
                    simp only [Act.put, List.setIfInBounds_toArray, List.set_cons_zero, List.set_cons_succ]
                    refine wpAnyH_ready (rs := [6, 11]) (by kernel_rfl) (by simp) ?_
                    refine AllReadyH.cons (o := _) rfl (fun K hK => ?_) (AllReadyH.cons (o := _) rfl (fun K hK => ?_) AllReadyH.nil)
                    · skip
                      go_simp
                      (go_at_call 15; refine (table_Batch_ok A2 n2 c2 UP B2 m2 d2 UQ xb Bq mq dq LF QF N _ (HTR9.out.1.up (hbq)) (HTR9.out.2.up (hbq)) (HTXZ.out.up (hbq)) HMU.out HBM.out HR.out HN.out).mono ?_; rintro e wp ⟨vp, va, rfl, hop, hoa, hod, hbp⟩; obtain ⟨Bp, dp, rfl, hr1⟩ := nmP hop HN7.out (by omega); obtain ⟨Ba, da, rfl, hr2⟩ := nmA hoa HN8.out (by omega))
                      have hbbp := bel_trans (hbq) hbp
                      have hlB := (hbq).size
                      have hfp := hop.farN (g := gt) (Nat.lt_of_lt_of_le hgtZ hlB)
                      have hfa := hoa.farN (g := gt) (Nat.lt_of_lt_of_le hgtZ hlB)
                      refine hK.out _ _ (hS _ hbbp) (fun hHeld => ?_)
                      clear hK K
                      (try simp only [Act.put, List.setIfInBounds_toArray, List.set_cons_zero, List.set_cons_succ])
                      (refine wpAnyH_tk 7 (some 208) (v := ?_) rfl rfl ?_ ?_; rotate_left; (focus (intro wq hSw; clear hSw; go_simp; all_goals (with_reducible rfl))); simp only [Act.put, List.setIfInBounds_toArray, List.set_cons_zero, List.set_cons_succ])
                      (refine wpAnyH_tk 8 (some 216) (v := ?_) rfl rfl ?_ ?_; rotate_left; (focus (intro wq hSw; clear hSw; go_simp; all_goals (with_reducible rfl))); simp only [Act.put, List.setIfInBounds_toArray, List.set_cons_zero, List.set_cons_succ])
                      (refine wpAnyH_tk 9 (some 217) (v := ?_) rfl rfl ?_ ?_; rotate_left; (focus (intro wq hSw; clear hSw; go_simp; all_goals (with_reducible rfl))); simp only [Act.put, List.setIfInBounds_toArray, List.set_cons_zero, List.set_cons_succ])
                      (refine wpAnyH_tk 10 (some 218) (v := ?_) rfl rfl ?_ ?_; rotate_left; (focus (intro wq hSw; clear hSw; go_simp; all_goals (with_reducible rfl))); simp only [Act.put, List.setIfInBounds_toArray, List.set_cons_zero, List.set_cons_succ])
                      refine wpAnyH_ready (rs := [11]) (by kernel_rfl) (by simp) ?_
                      refine AllReadyH.cons (o := _) rfl (fun K hK => ?_) AllReadyH.nil
                      go_simp
                      obtain ⟨g4, hg4⟩ : ∃ g, g = wp.heap.size := ⟨_, rfl⟩
                      obtain ⟨ZB, hZB⟩ : ∃ Zr : World, Zr = wp.alloc (.cells #[.slice none 0 0, .slice none 0 0] 25) := ⟨_, rfl⟩
                      rw [← hg4, ← hZB]
                      have hza : Blk ZB g4 25 [.slice none 0 0, .slice none 0 0] := by rw [hZB, hg4]; exact Blk.new _ 25 [.slice none 0 0, .slice none 0 0]
                      have hbz : Below wp.heap.size wp ZB := by rw [hZB]; exact bel_alloc (Below.refl _ _)
                      have hbbz := bel_trans (hbbp) hbz
                      have hg4b : Z.heap.size ≤ g4 := by rw [hg4]; exact (hbbp).size
                      have hg4c : wp.heap.size ≤ g4 := by rw [hg4]; exact Nat.le_refl _
                      have hq1 := hr1.farN hg4c
                      have hq2 := hr2.farN hg4c
                      have hr1 := hr1.up hbz
                      have hr2 := hr2.up hbz
                      clear hg4 hZB
                      refine hK.out _ _ (hS _ hbbz) (fun hHeld => ?_)
                      clear hK K
                      (try simp only [Act.put, List.setIfInBounds_toArray, List.set_cons_zero, List.set_cons_succ])
                      refine wpAnyH_ready (rs := [12]) (by kernel_rfl) (by simp) ?_
                      refine AllReadyH.cons (o := _) rfl (fun K hK => ?_) AllReadyH.nil
                      have hzf := hza.frozen
                      have hzl := hza.lt
                      have z_0 := (hza.box).2 0 _ rfl; have z_1 := (hza.box).2 1 _ rfl
                      go_simp
                      clear hzf hzl z_0 z_1
                      have hz8 : Blk _ g4 25 [.slice Bp n7 dp, .slice Ba n8 da] := set2X hza (.slice Bp n7 dp) (.slice Ba n8 da)
                      have hbb8 := bel_set2X (hbbz) hg4b (.slice Bp n7 dp) (.slice Ba n8 da)
                      refine hK.out _ _ (hS _ hbb8) (fun hHeld => ?_)
                      clear hK K
                      (try simp only [Act.put, List.setIfInBounds_toArray, List.set_cons_zero, List.set_cons_succ])
                      (refine wpAnyH_tk 13 (some 19) (v := ?_) rfl rfl ?_ ?_; rotate_left; (focus (intro wq hSw; clear hSw; go_simp; all_goals (with_reducible rfl))); simp only [Act.put, List.setIfInBounds_toArray, List.set_cons_zero, List.set_cons_succ])
                      (refine wpAnyH_tk 14 (some 20) (v := ?_) rfl rfl ?_ ?_; rotate_left; (focus (intro wq hSw; clear hSw; go_simp; all_goals (with_reducible rfl))); simp only [Act.put, List.setIfInBounds_toArray, List.set_cons_zero, List.set_cons_succ])
                      refine wpAnyH_done (by kernel_rfl) ?_ _
                      go_wp2_with fail
                      go_meet
                      exact ⟨g4, Bp, Ba, dp, da, rfl, rfl, rfl, hg4b, Lib.hid hz8, Lib.hid ⟨(hr1.set_far hq1 _).set_far hq1 _, (hr2.set_far hq2 _).set_far hq2 _⟩, Lib.hid ⟨hfp, hfa⟩, hbb8⟩
                    · skip
                      go_simp
                      obtain ⟨g4, hg4⟩ : ∃ g, g = Zq.heap.size := ⟨_, rfl⟩
                      obtain ⟨ZB, hZB⟩ : ∃ Zr : World, Zr = Zq.alloc (.cells #[.slice none 0 0, .slice none 0 0] 25) := ⟨_, rfl⟩
                      rw [← hg4, ← hZB]
                      have hza : Blk ZB g4 25 [.slice none 0 0, .slice none 0 0] := by rw [hZB, hg4]; exact Blk.new _ 25 [.slice none 0 0, .slice none 0 0]
                      have hbz : Below Zq.heap.size Zq ZB := by rw [hZB]; exact bel_alloc (Below.refl _ _)
                      have hbbz := bel_trans (hbq) hbz
                      have hg4b : Z.heap.size ≤ g4 := by rw [hg4]; exact (hbq).size
                      clear hg4 hZB
                      refine hK.out _ _ (hS _ hbbz) (fun hHeld => ?_)
                      clear hK K
                      (try simp only [Act.put, List.setIfInBounds_toArray, List.set_cons_zero, List.set_cons_succ])
                      refine wpAnyH_ready (rs := [6]) (by kernel_rfl) (by simp) ?_
                      refine AllReadyH.cons (o := _) rfl (fun K hK => ?_) AllReadyH.nil
                      go_simp
                      (go_at_call 15; refine (table_Batch_ok A2 n2 c2 UP B2 m2 d2 UQ xb Bq mq dq LF QF N _ (HTR9.out.1.up (hbbz)) (HTR9.out.2.up (hbbz)) (HTXZ.out.up (hbbz)) HMU.out HBM.out HR.out HN.out).mono ?_; rintro e wp ⟨vp, va, rfl, hop, hoa, hod, hbp⟩; obtain ⟨Bp, dp, rfl, hr1⟩ := nmP hop HN7.out (by omega); obtain ⟨Ba, da, rfl, hr2⟩ := nmA hoa HN8.out (by omega))
                      have hbbp := bel_trans (hbbz) hbp
                      have hlB := (hbbz).size
                      have hfp := hop.farN (g := gt) (Nat.lt_of_lt_of_le hgtZ hlB)
                      have hfa := hoa.farN (g := gt) (Nat.lt_of_lt_of_le hgtZ hlB)
                      have hq1 := hop.farN hza.lt
                      have hq2 := hoa.farN hza.lt
                      have hzp := hza.up hbp
                      refine hK.out _ _ (hS _ hbbp) (fun hHeld => ?_)
                      clear hK K
                      (try simp only [Act.put, List.setIfInBounds_toArray, List.set_cons_zero, List.set_cons_succ])
                      (refine wpAnyH_tk 7 (some 208) (v := ?_) rfl rfl ?_ ?_; rotate_left; (focus (intro wq hSw; clear hSw; go_simp; all_goals (with_reducible rfl))); simp only [Act.put, List.setIfInBounds_toArray, List.set_cons_zero, List.set_cons_succ])
                      (refine wpAnyH_tk 8 (some 216) (v := ?_) rfl rfl ?_ ?_; rotate_left; (focus (intro wq hSw; clear hSw; go_simp; all_goals (with_reducible rfl))); simp only [Act.put, List.setIfInBounds_toArray, List.set_cons_zero, List.set_cons_succ])
                      (refine wpAnyH_tk 9 (some 217) (v := ?_) rfl rfl ?_ ?_; rotate_left; (focus (intro wq hSw; clear hSw; go_simp; all_goals (with_reducible rfl))); simp only [Act.put, List.setIfInBounds_toArray, List.set_cons_zero, List.set_cons_succ])
                      (refine wpAnyH_tk 10 (some 218) (v := ?_) rfl rfl ?_ ?_; rotate_left; (focus (intro wq hSw; clear hSw; go_simp; all_goals (with_reducible rfl))); simp only [Act.put, List.setIfInBounds_toArray, List.set_cons_zero, List.set_cons_succ])
                      refine wpAnyH_ready (rs := [12]) (by kernel_rfl) (by simp) ?_
                      refine AllReadyH.cons (o := _) rfl (fun K hK => ?_) AllReadyH.nil
                      have hzf := hzp.frozen
                      have hzl := hzp.lt
                      have z_0 := (hzp.box).2 0 _ rfl; have z_1 := (hzp.box).2 1 _ rfl
                      go_simp
                      clear hzf hzl z_0 z_1
                      have hz8 : Blk _ g4 25 [.slice Bp n7 dp, .slice Ba n8 da] := set2X hzp (.slice Bp n7 dp) (.slice Ba n8 da)
                      have hbb8 := bel_set2X (hbbp) hg4b (.slice Bp n7 dp) (.slice Ba n8 da)
                      refine hK.out _ _ (hS _ hbb8) (fun hHeld => ?_)
                      clear hK K
                      (try simp only [Act.put, List.setIfInBounds_toArray, List.set_cons_zero, List.set_cons_succ])
                      (refine wpAnyH_tk 13 (some 19) (v := ?_) rfl rfl ?_ ?_; rotate_left; (focus (intro wq hSw; clear hSw; go_simp; all_goals (with_reducible rfl))); simp only [Act.put, List.setIfInBounds_toArray, List.set_cons_zero, List.set_cons_succ])
                      (refine wpAnyH_tk 14 (some 20) (v := ?_) rfl rfl ?_ ?_; rotate_left; (focus (intro wq hSw; clear hSw; go_simp; all_goals (with_reducible rfl))); simp only [Act.put, List.setIfInBounds_toArray, List.set_cons_zero, List.set_cons_succ])
                      refine wpAnyH_done (by kernel_rfl) ?_ _
                      go_wp2_with fail
                      go_meet
                      exact ⟨g4, Bp, Ba, dp, da, rfl, rfl, rfl, hg4b, Lib.hid hz8, Lib.hid ⟨(hr1.set_far hq1 _).set_far hq1 _, (hr2.set_far hq2 _).set_far hq2 _⟩, Lib.hid ⟨hfp, hfa⟩, hbb8⟩
                  case rest =>
                  obtain ⟨g4, Bp, Ba, dp, da, rfl, rfl, rfl, hg4b, HZ7, HLR7, HFAR, hb7z⟩ := hcut
                  obtain ⟨V, hV⟩ : ∃ x, x = wc := ⟨_, rfl⟩
                  subst hV
                  clear hS hS1 hS2
                  have HTV := Lib.hid (HT9.out.up hb7z)
                  have hbV := bel_trans hb89 hb7z
                  have hne : gt ≠ g4 := by omega
                  have htv := HTV.out
                  have tf := htv.frozen
                  have tl := htv.lt
                  have t_0 := (htv.box).2 0 _ rfl; have t_1 := (htv.box).2 1 _ rfl
                  clear htv
                  have zl := HZ7.out.lt
                  have z_0 := (HZ7.out.box).2 0 _ rfl; have z_1 := (HZ7.out.box).2 1 _ rfl
                  go_wp2_with (go_at_call 11; refine (law23_num _ _).mono ?_; rintro e w' ⟨rfl, rfl⟩)
                  (first | (go_round; (case rel => exact ⟨z + 1, true, Bp, n7, dp, Ba, n8, da, LF, QF, by omega, by go_num, rfl, (by simp), Lib.hid (set2X HTV.out _ _), Lib.hid ⟨(HLR7.out.1.set_far HFAR.out.1 _).set_far HFAR.out.1 _, (HLR7.out.2.set_far HFAR.out.2 _).set_far HFAR.out.2 _⟩, Lib.hid ⟨fun h => (by cases h), fun _ => by rw [HXB.out, ← HEU.out.1, ← HEU.out.2]; exact HR.out⟩, bel_set2X hbV hgt5 _ _⟩); (case measure => (simp [intOf] <;> omega))) | (go_roundw; (case rel => exact ⟨z + 1, true, Bp, n7, dp, Ba, n8, da, LF, QF, by omega, by go_num, rfl, (by simp), Lib.hid (set2X HTV.out _ _), Lib.hid ⟨(HLR7.out.1.set_far HFAR.out.1 _).set_far HFAR.out.1 _, (HLR7.out.2.set_far HFAR.out.2 _).set_far HFAR.out.2 _⟩, Lib.hid ⟨fun h => (by cases h), fun _ => by rw [HXB.out, ← HEU.out.1, ← HEU.out.2]; exact HR.out⟩, bel_set2X hbV hgt5 _ _⟩); (case measure => (simp [intOf] <;> omega))) | (refine ⟨?_, by simp [intOf] <;> omega⟩; (repeat apply Exists.intro); refine ⟨?rel, ?fr⟩; (case fr => ((repeat' apply And.intro) <;> rfl)); (case rel => exact ⟨z + 1, true, Bp, n7, dp, Ba, n8, da, LF, QF, by omega, by go_num, rfl, (by simp), Lib.hid (set2X HTV.out _ _), Lib.hid ⟨(HLR7.out.1.set_far HFAR.out.1 _).set_far HFAR.out.1 _, (HLR7.out.2.set_far HFAR.out.2 _).set_far HFAR.out.2 _⟩, Lib.hid ⟨fun h => (by cases h), fun _ => by rw [HXB.out, ← HEU.out.1, ← HEU.out.2]; exact HR.out⟩, bel_set2X hbV hgt5 _ _⟩)))
                · skip
                  have q3 : (zd != d) = true := by simp [hze]
                  go_upto_region 38 with fail
                  refine wp_region_held_drew (S := S) (by kernel_rfl) hS0 (fun hHeld => ?_)
                  clear hS0
                  generalize w8.drew = Z at *
                  (refine wpAnyH_tk 0 (some 198) (v := ?_) rfl rfl ?_ ?_; rotate_left; (focus (intro wq hSw; clear hSw; go_simp; all_goals (with_reducible rfl))); simp only [Act.put, List.setIfInBounds_toArray, List.set_cons_zero, List.set_cons_succ])
                  (refine wpAnyH_tk 1 (some 199) (v := ?_) rfl rfl ?_ ?_; rotate_left; (focus (intro wq hSw; clear hSw; go_simp; all_goals (with_reducible rfl))); simp only [Act.put, List.setIfInBounds_toArray, List.set_cons_zero, List.set_cons_succ])
                  (refine wpAnyH_tk 2 (some 200) (v := ?_) rfl rfl ?_ ?_; rotate_left; (focus (intro wq hSw; clear hSw; go_simp; all_goals (with_reducible rfl))); simp only [Act.put, List.setIfInBounds_toArray, List.set_cons_zero, List.set_cons_succ])
                  (refine wpAnyH_tk 3 (some 201) (v := ?_) rfl rfl ?_ ?_; rotate_left; (focus (intro wq hSw; clear hSw; go_simp; all_goals (with_reducible rfl))); simp only [Act.put, List.setIfInBounds_toArray, List.set_cons_zero, List.set_cons_succ])
                  (refine wpAnyH_tk 4 (some 202) (v := ?_) rfl rfl ?_ ?_; rotate_left; (focus (intro wq hSw; have q1 := hS1 wq hSw; clear hSw; go_simp; all_goals (with_reducible rfl))); simp only [Act.put, List.setIfInBounds_toArray, List.set_cons_zero, List.set_cons_succ])
                  (refine wpAnyH_tk 5 (some 203) (v := ?_) rfl rfl ?_ ?_; rotate_left; (focus (intro wq hSw; clear hSw; go_simp; all_goals (with_reducible rfl))); simp only [Act.put, List.setIfInBounds_toArray, List.set_cons_zero, List.set_cons_succ])
                  (refine wpAnyH_tk 6 (some 204) (v := ?_) rfl rfl ?_ ?_; rotate_left; (focus (intro wq hSw; clear hSw; go_simp; all_goals (with_reducible rfl))); simp only [Act.put, List.setIfInBounds_toArray, List.set_cons_zero, List.set_cons_succ])
                  (refine wpAnyH_tk 7 (some 205) (v := ?_) rfl rfl ?_ ?_; rotate_left; (focus (intro wq hSw; clear hSw; go_simp; all_goals (with_reducible rfl))); simp only [Act.put, List.setIfInBounds_toArray, List.set_cons_zero, List.set_cons_succ])
                  (refine wpAnyH_tk 8 (some 206) (v := ?_) rfl rfl ?_ ?_; rotate_left; (focus (intro wq hSw; have q1 := hS2 wq hSw; clear hSw; go_simp; all_goals (with_reducible rfl))); simp only [Act.put, List.setIfInBounds_toArray, List.set_cons_zero, List.set_cons_succ])
                  (refine wpAnyH_tk 9 (some 207) (v := ?_) rfl rfl ?_ ?_; rotate_left; (focus (intro wq hSw; clear hSw; go_simp; all_goals (with_reducible rfl))); simp only [Act.put, List.setIfInBounds_toArray, List.set_cons_zero, List.set_cons_succ])
                  refine wpAnyH_done (by kernel_rfl) ?_ _
                  clear hHeld hS1 hS2
                  have hb89 := bel_trans hb8 hbd
                  have HT9 := Lib.hid (HT2.out.up hbd)
                  have HTR9 := Lib.hid (And.intro (HTR2.out.1.up hbd) (HTR2.out.2.up hbd))
                  go_wp2_with fail
                  (first | (go_round; (case rel => exact ⟨z + 1, f, A2, n2, c2, B2, m2, d2, UP, UQ, by omega, by go_num, rfl, (by rw [HFF.out]; (have h1 : z ≠ kp := fun e => hze (by rw [← HZD.out]; exact (HIF.out z hzn).2 e)); (by_cases h2 : kp < z; (rw [decide_eq_true h2, decide_eq_true (by omega)]); (rw [decide_eq_false h2, decide_eq_false (by omega)]))), HT9, HTR9, HU, hb89⟩); (case measure => (simp [intOf] <;> omega))) | (go_roundw; (case rel => exact ⟨z + 1, f, A2, n2, c2, B2, m2, d2, UP, UQ, by omega, by go_num, rfl, (by rw [HFF.out]; (have h1 : z ≠ kp := fun e => hze (by rw [← HZD.out]; exact (HIF.out z hzn).2 e)); (by_cases h2 : kp < z; (rw [decide_eq_true h2, decide_eq_true (by omega)]); (rw [decide_eq_false h2, decide_eq_false (by omega)]))), HT9, HTR9, HU, hb89⟩); (case measure => (simp [intOf] <;> omega))) | (refine ⟨?_, by simp [intOf] <;> omega⟩; (repeat apply Exists.intro); refine ⟨?rel, ?fr⟩; (case fr => ((repeat' apply And.intro) <;> rfl)); (case rel => exact ⟨z + 1, f, A2, n2, c2, B2, m2, d2, UP, UQ, by omega, by go_num, rfl, (by rw [HFF.out]; (have h1 : z ≠ kp := fun e => hze (by rw [← HZD.out]; exact (HIF.out z hzn).2 e)); (by_cases h2 : kp < z; (rw [decide_eq_true h2, decide_eq_true (by omega)]); (rw [decide_eq_false h2, decide_eq_false (by omega)]))), HT9, HTR9, HU, hb89⟩)))
              · skip
                obtain rfl : hn = z := by omega
                obtain rfl : f = true := by rw [HFF.out]; simp; omega
                have HFX2 : Hid (foldX hd (((D.e.s ++ al).take (i + 1)).drop c0) D.e.p D.e.q = (UP, UQ)) := Lib.hid (by rw [foldX_snoc hci (by rw [HRX5.out.s.1]; omega) HFX.out, HDD.out, HKP.out]; exact HU.out.2 rfl)
                go_wp2_with fail
                (first | (go_round; (case rel => exact ⟨i + 1, A2, n2, c2, B2, m2, d2, UP, UQ, by omega, by omega, by go_num, HT2, HTR2, HFX2, Lib.hid (by have h9 := foldX_may hd (((D.e.s ++ al).take (i + 1)).drop c0) (exB_iff.1 HYE.out).1; rw [HFX2.out] at h9; exact h9), hb8⟩); (case measure => (simp [intOf] <;> omega))) | (go_roundw; (case rel => exact ⟨i + 1, A2, n2, c2, B2, m2, d2, UP, UQ, by omega, by omega, by go_num, HT2, HTR2, HFX2, Lib.hid (by have h9 := foldX_may hd (((D.e.s ++ al).take (i + 1)).drop c0) (exB_iff.1 HYE.out).1; rw [HFX2.out] at h9; exact h9), hb8⟩); (case measure => (simp [intOf] <;> omega))) | (refine ⟨?_, by simp [intOf] <;> omega⟩; (repeat apply Exists.intro); refine ⟨?rel, ?fr⟩; (case fr => ((repeat' apply And.intro) <;> rfl)); (case rel => exact ⟨i + 1, A2, n2, c2, B2, m2, d2, UP, UQ, by omega, by omega, by go_num, HT2, HTR2, HFX2, Lib.hid (by have h9 := foldX_may hd (((D.e.s ++ al).take (i + 1)).drop c0) (exB_iff.1 HYE.out).1; rw [HFX2.out] at h9; exact h9), hb8⟩)))
          · skip
            obtain rfl : i = cn := by omega
            have hpq : TP = P ∧ TQ = Q := by have h1 := HFX.out; rw [HFO.out.fold] at h1; injection h1 with h1 h2; exact ⟨h1.symm, h2.symm⟩
            have HTP : Hid (PairsR w7 A1 n1 P ∧ AcctsR w7 B1 m1 Q) := Lib.hid (by rw [← hpq.1, ← hpq.2]; exact HTR.out)
            clear hpq
            have HTW := HT
            go_upto_region 46 with fail
            go_upto_region 48 with (first | (go_at_call 17; refine (ref0_EqTable pA pn pc qA qn qc A1 n1 c1 B1 m1 d1 P Q _ (HRX5.out.p.up hbX9) (HRX5.out.q.up hbX9) (HTP.out.1.up hb9) (HTP.out.2.up hb9)).mono ?_; rintro e w10 ⟨rfl, hb10⟩; have hbX10 := bel_trans hbX9 hb10; clear xl x_0 x_1 x_2 x_3 tl t_0 t_1; have h9x := HX5.out.up (hbX10); have xl := h9x.lt; have x_0 := (h9x.box).2 0 _ rfl; have x_1 := (h9x.box).2 1 _ rfl; have x_2 := (h9x.box).2 2 _ rfl; have x_3 := (h9x.box).2 3 _ rfl; clear h9x) | (go_at_call 16; refine (ref0_EqNumbers_same sA sn sc (D.e.s ++ al) zA sn zc _ (HRX5.out.s.up hb7) (HSN5.out.up hb7)).mono ?_; rintro e w9 ⟨rfl, hb9⟩; have hbX9 := bel_trans hb7 hb9; clear xl x_0 x_1 x_2 x_3; have h9x := HX5.out.up (hbX9); have xl := h9x.lt; have x_0 := (h9x.box).2 0 _ rfl; have x_1 := (h9x.box).2 1 _ rfl; have x_2 := (h9x.box).2 2 _ rfl; have x_3 := (h9x.box).2 3 _ rfl; clear h9x; have h9x := HTW.out.up (hb9); have tl := h9x.lt; have t_0 := (h9x.box).2 0 _ rfl; have t_1 := (h9x.box).2 1 _ rfl; clear h9x))
            by_cases hcl : i < sn
            · skip
              obtain ⟨rA, rc, eR, hRd, -, -⟩ := (HHD5.out.up hbX10).read (by rw [HLN.out.2]; omega)
              rw [HLN.out.2] at eR hRd
              injection eR with eR1 eR2 eR3
              subst eR1
              subst eR3
              clear eR2
              have HRD := Lib.hid hRd
              clear hRd
              have hsl : (D.e.s ++ al).length = sn := HRX5.out.s.1
              obtain ⟨fr, hfr⟩ := missX_head (l := hd) (s := (D.e.s ++ al)) (c := i) (by rw [hsl]; exact hcl) (HFO.out.stop (by rw [hsl]; exact hcl))
              obtain ⟨d, hdd⟩ : ∃ d, nth (D.e.s ++ al) i = d := ⟨_, rfl⟩
              rw [hdd] at hfr
              have HDD := Lib.hid hdd
              have HFR := Lib.hid hfr
              obtain ⟨n6, hn6⟩ : ∃ n, fr.length + 1 = n := ⟨_, rfl⟩
              have hn6m : (missL hd ((D.e.s ++ al).drop i)).length = n6 := by rw [hfr]; exact hn6
              have hn6l : n6 ≤ sn := by rw [← hn6m]; exact Nat.le_trans miss_len (by rw [List.length_drop, hsl]; omega)
              have hn60 : 0 < n6 := by omega
              have HN6 := Lib.hid hn6m
              clear hdd hfr hn6 hn6m hsl
              go_upto_region 50 with (go_at_call 18; refine (exec_Lacks_ok pA qA sA hA pn pc qn qc sn sc hn hc i P Q (D.e.s ++ al) hd _ (HRX5.out.p.up hbX10) (HRX5.out.q.up hbX10) (HRX5.out.s.up hbX10) HRD.out HFO.out.ex (hdB_iff.2 HFO.out.may) (by omega) (by omega) hsk).mono ?_; rintro e w11 ⟨v8, rfl, hown8, hb11⟩; obtain ⟨Af, cf, rfl, hr8⟩ := nmI hown8 HN6.out (by omega))
              clear xl x_0 x_1 x_2 x_3
              have hbX11 := bel_trans hbX10 hb11
              have h9x := HX5.out.up (hbX11)
              have xl := h9x.lt
              have x_0 := (h9x.box).2 0 _ rfl; have x_1 := (h9x.box).2 1 _ rfl; have x_2 := (h9x.box).2 2 _ rfl; have x_3 := (h9x.box).2 3 _ rfl
              clear h9x
              obtain ⟨zb, zo, eZ, hzb, hzc⟩ := (HSN5.out.up hbX11).2.2 (by omega)
              subst eZ
              have z0 := hzc i hcl
              rw [HDD.out] at z0
              obtain ⟨fb, fo, eF, hfb, hfc⟩ := hr8.2.2 hn60
              subst eF
              have f0 := hfc 0 hn60
              rw [HFR.out] at f0
              simp only [Nat.add_zero] at f0
              have e0 : nth (d :: fr) 0 = d := rfl
              rw [e0] at f0
              clear e0 hzc hfc hr8 hown8
              have hl0 : ((n6 : Int) == 0) = false := by simp; omega
              have hl1 : (n6 == 0) = false := by simp; omega
              skip
              have x3 := (HX5.out.up hbX11).box.2 3 _ rfl
              obtain ⟨S, hSd⟩ : ∃ S : World → Prop, S = fun Q => Q.cell? ⟨fb, fo, none⟩ = some (.int .i64 d) ∧ Q.cell? ⟨gx, 3, none⟩ = some (.int .i64 (i : Int)) ∧ Q.cell? ⟨zb, zo + i, none⟩ = some (.int .i64 d) := ⟨_, rfl⟩
              have hS1 : ∀ Q, S Q → Q.cell? ⟨fb, fo, none⟩ = some (.int .i64 d) := fun Q h => by rw [hSd] at h; exact h.1
              have hS2 : ∀ Q, S Q → Q.cell? ⟨gx, 3, none⟩ = some (.int .i64 (i : Int)) := fun Q h => by rw [hSd] at h; exact h.2.1
              have hS3 : ∀ Q, S Q → Q.cell? ⟨zb, zo + i, none⟩ = some (.int .i64 d) := fun Q h => by rw [hSd] at h; exact h.2.2
              have hbd : Below w11.heap.size w11 w11.drew := bel_drew (Below.refl _ _)
              have hS0 : S w11.drew := by rw [hSd]; exact ⟨f0, x3, z0⟩
              clear hSd f0 x3 z0 xl x_0 x_1 x_2 x_3
              go_upto_region 50 with fail
              refine wp_region_held_drew (S := S) (by kernel_rfl) hS0 (fun hHeld => ?_)
              generalize w11.drew = Z at *
              (refine wpAnyH_tk 0 (some 248) (v := ?_) rfl rfl ?_ ?_; rotate_left; (focus (intro wq hSw; clear hSw; go_simp; all_goals (with_reducible rfl))); simp only [Act.put, List.setIfInBounds_toArray, List.set_cons_zero, List.set_cons_succ])
              refine wpAnyH_ready (rs := [1]) (by kernel_rfl) (by simp) ?_
              refine AllReadyH.cons (o := _) rfl (fun K hK => ?_) AllReadyH.nil
              go_simp
              (go_at_call 11; refine (law23_num _ _).mono ?_; rintro e w' ⟨rfl, rfl⟩)
              refine hK.out _ _ (hS0) (fun hHeld => ?_)
              clear hK K
              (try simp only [Act.put, List.setIfInBounds_toArray, List.set_cons_zero, List.set_cons_succ])
              (refine wpAnyH_tk 2 (some 250) (v := ?_) rfl rfl ?_ ?_; rotate_left; (focus (intro wq hSw; clear hSw; go_simp; all_goals (with_reducible rfl))); simp only [Act.put, List.setIfInBounds_toArray, List.set_cons_zero, List.set_cons_succ])
              (refine wpAnyH_tk 3 (some 251) (v := ?_) rfl rfl ?_ ?_; rotate_left; (focus (intro wq hSw; clear hSw; go_simp; all_goals (with_reducible rfl))); simp only [Act.put, List.setIfInBounds_toArray, List.set_cons_zero, List.set_cons_succ])
              (refine wpAnyH_tk 4 (some 252) (v := ?_) rfl rfl ?_ ?_; rotate_left; (focus (intro wq hSw; clear hSw; go_simp; all_goals (with_reducible rfl))); simp only [Act.put, List.setIfInBounds_toArray, List.set_cons_zero, List.set_cons_succ])
              (refine wpAnyH_tk 5 (some 253) (v := ?_) rfl rfl ?_ ?_; rotate_left; (focus (intro wq hSw; clear hSw; go_simp; all_goals (with_reducible rfl))); simp only [Act.put, List.setIfInBounds_toArray, List.set_cons_zero, List.set_cons_succ])
              (refine wpAnyH_tk 6 (some 254) (v := ?_) rfl rfl ?_ ?_; rotate_left; (focus (intro wq hSw; clear hSw; go_simp; all_goals (with_reducible rfl))); simp only [Act.put, List.setIfInBounds_toArray, List.set_cons_zero, List.set_cons_succ])
              (refine wpAnyH_tk 7 (some 255) (v := ?_) rfl rfl ?_ ?_; rotate_left; (focus (intro wq hSw; clear hSw; go_simp; all_goals (with_reducible rfl))); simp only [Act.put, List.setIfInBounds_toArray, List.set_cons_zero, List.set_cons_succ])
              (refine wpAnyH_tk 8 (some 256) (v := ?_) rfl rfl ?_ ?_; rotate_left; (focus (intro wq hSw; clear hSw; go_simp; all_goals (with_reducible rfl))); simp only [Act.put, List.setIfInBounds_toArray, List.set_cons_zero, List.set_cons_succ])
              (refine wpAnyH_tk 9 (some 257) (v := ?_) rfl rfl ?_ ?_; rotate_left; (focus (intro wq hSw; clear hSw; go_simp; all_goals (with_reducible rfl))); simp only [Act.put, List.setIfInBounds_toArray, List.set_cons_zero, List.set_cons_succ])
              (refine wpAnyH_tk 10 (some 258) (v := ?_) rfl rfl ?_ ?_; rotate_left; (focus (intro wq hSw; clear hSw; go_simp; all_goals (with_reducible rfl))); simp only [Act.put, List.setIfInBounds_toArray, List.set_cons_zero, List.set_cons_succ])
              (refine wpAnyH_tk 11 (some 259) (v := ?_) rfl rfl ?_ ?_; rotate_left; (focus (intro wq hSw; have q1 := hS1 wq hSw; clear hSw; go_simp; all_goals (with_reducible rfl))); simp only [Act.put, List.setIfInBounds_toArray, List.set_cons_zero, List.set_cons_succ])
              (refine wpAnyH_tk 12 (some 260) (v := ?_) rfl rfl ?_ ?_; rotate_left; (focus (intro wq hSw; clear hSw; go_simp; all_goals (with_reducible rfl))); simp only [Act.put, List.setIfInBounds_toArray, List.set_cons_zero, List.set_cons_succ])
              (refine wpAnyH_tk 13 (some 261) (v := ?_) rfl rfl ?_ ?_; rotate_left; (focus (intro wq hSw; clear hSw; go_simp; all_goals (with_reducible rfl))); simp only [Act.put, List.setIfInBounds_toArray, List.set_cons_zero, List.set_cons_succ])
              (refine wpAnyH_tk 14 (some 262) (v := ?_) rfl rfl ?_ ?_; rotate_left; (focus (intro wq hSw; have q1 := hS2 wq hSw; clear hSw; go_simp; all_goals (with_reducible rfl))); simp only [Act.put, List.setIfInBounds_toArray, List.set_cons_zero, List.set_cons_succ])
              (refine wpAnyH_tk 15 (some 263) (v := ?_) rfl rfl ?_ ?_; rotate_left; (focus (intro wq hSw; clear hSw; go_simp; all_goals (with_reducible rfl))); simp only [Act.put, List.setIfInBounds_toArray, List.set_cons_zero, List.set_cons_succ])
              (refine wpAnyH_tk 16 (some 264) (v := ?_) rfl rfl ?_ ?_; rotate_left; (focus (intro wq hSw; have q1 := hS3 wq hSw; clear hSw; go_simp; all_goals (with_reducible rfl))); simp only [Act.put, List.setIfInBounds_toArray, List.set_cons_zero, List.set_cons_succ])
              (refine wpAnyH_tk 17 (some 265) (v := ?_) rfl rfl ?_ ?_; rotate_left; (focus (intro wq hSw; clear hSw; go_simp; all_goals (with_reducible rfl))); simp only [Act.put, List.setIfInBounds_toArray, List.set_cons_zero, List.set_cons_succ])
              (refine wpAnyH_tk 18 (some 266) (v := ?_) rfl rfl ?_ ?_; rotate_left; (focus (intro wq hSw; clear hSw; go_simp; all_goals (with_reducible rfl))); simp only [Act.put, List.setIfInBounds_toArray, List.set_cons_zero, List.set_cons_succ])
              refine wpAnyH_done (by kernel_rfl) ?_ _
              clear hHeld hS1 hS2 hS3 hS0
              go_wp2_with (go_at_call 19; refine (law23_wakes _).mono ?_; rintro e wq ⟨rfl, hbq⟩)
              all_goals
                go_ret
                exact ⟨rfl, bel_trans hbw5 (bel_trans (bel_trans hbX11 hbd) hbq)⟩
            · skip
              go_upto_region 52 with fail
              go_wp2_with (go_at_call 19; refine (law23_wakes _).mono ?_; rintro e wq ⟨rfl, hbq⟩)
              all_goals
                go_ret
                exact ⟨rfl, bel_trans hbw5 (bel_trans hbX10 hbq)⟩
end Go.Proofs.Ytbakkpabiknlmaa
