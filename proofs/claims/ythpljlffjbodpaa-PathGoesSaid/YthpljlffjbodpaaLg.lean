/- The law PathGoes: the walk. -/
import Derived.Test.YthpljlffjbodpaaPa
import Derived.Test.YthpljlffjbodpaaCp
import Derived.Test.YthpljlffjbodpaaR
namespace Go.Proofs.Ythpljlffjbodpaa
open Go.RowKit
set_option linter.unusedSimpArgs false
set_option linter.unusedVariables false

/-! ### plain -/
theorem DagOk.edge_ro {D : DagD} (h : DagOk D) {i j : Nat} (hi : i < D.certs.length) (he : Edge D.certs D.low i j) : j < D.certs.length ∧ (cth D.certs j).h.ro = (cth D.certs i).h.ro - 1 := by
  obtain ⟨hlow, y, hy, ey⟩ := he
  have hl := (par_iff h.2.1 hi h.dist h.mono).1 (h.2.2.2.2 i hi).2.2.2.2
  unfold lacksS at hl
  rw [if_neg (by omega), List.filter_eq_nil_iff] at hl
  obtain ⟨p, hp, e, hr⟩ := lack_false.1 (by simpa using hl y hy)
  obtain rfl : p = j := by omega
  exact ⟨hp, hr⟩
theorem DagOk.rch_ro {D : DagD} (h : DagOk D) {i j : Nat} (hr : Rch D.certs D.low i j) : i < D.certs.length → i = j ∨ (cth D.certs j).h.ro < (cth D.certs i).h.ro := by
  induction hr with
  | refl => intro _; exact .inl rfl
  | step e _ ih =>
    intro hi
    obtain ⟨h1, h2⟩ := h.edge_ro hi e
    rcases ih h1 with h3 | h3
    · right; rw [← h3]; omega
    · right; omega
theorem goes_up {D : DagD} (h : DagOk D) {i k : Nat} (hi : i < D.certs.length) (hne : i ≠ k) (hm : marksS D.certs D.low i k = true) : (cth D.certs k).h.ro < (cth D.certs i).h.ro := by
  rcases h.rch_ro ((marksS_iff h hi).1 hm) hi with h1 | h1
  · exact absurd h1 hne
  · exact h1
theorem goes_parent {D : DagD} (h : DagOk D) {i k : Nat} (hi : i < D.certs.length) (hk : k < D.certs.length) (h1 : (cth D.certs k).h.ro = (cth D.certs i).h.ro - 1) (h2 : hasS (cth D.certs i).h.pa (cth D.certs k).di = true) : marksS D.certs D.low i k = true := by
  rw [marksS_iff h hi]
  have := h.ro hk
  exact .step ⟨by omega, _, (hasS_iff _ _).1 h2, h.dist.find hk⟩ (.refl _)
theorem goes_trans {D : DagD} (h : DagOk D) {i k j : Nat} (hi : i < D.certs.length) (hk : k < D.certs.length) (h1 : marksS D.certs D.low i k = true) (h2 : marksS D.certs D.low k j = true) : marksS D.certs D.low i j = true :=
  (marksS_iff h hi).2 (((marksS_iff h hi).1 h1).trans ((marksS_iff h hk).1 h2))
theorem goes_below {D : DagD} (h : DagOk D) (i : Nat) {k : Nat} (hk : k < D.certs.length) : hasS (belowS D.certs D.low 0 i) (cth D.certs k).di = marksS D.certs D.low i k := by
  rw [Bool.eq_iff_iff, hasS_iff]
  unfold belowS
  rw [belowL_pos, List.mem_map]
  constructor
  · rintro ⟨p, hp, e⟩
    have := posL_lt hp
    obtain rfl := h.dist.eq this.1 hk e
    exact this.2.1
  · intro hm
    exact ⟨k, posL_mem hk hm (by have := h.ro hk; have := h.2.1; omega), rfl⟩
theorem inS_ge (l : List Int) (x : Int) : decide (0 ≤ inS l x) = hasS l x := rfl
def rowsL (n i : Nat) (G : Nat → Nat) : List Value := (List.range n).map fun r => if r < i then .slice (some ⟨G r, 0, none⟩) n n else .slice none 0 0
theorem rowsL_get {n i : Nat} {G : Nat → Nat} {r : Nat} (h : r < n) : (rowsL n i G)[r]? = some (if r < i then .slice (some ⟨G r, 0, none⟩) n n else .slice none 0 0) := by simp [rowsL, h]
theorem rowsL_set {n i : Nat} {G : Nat → Nat} {g : Nat} (h : i < n) : (rowsL n i G).set i (.slice (some ⟨g, 0, none⟩) n n) = rowsL n (i + 1) (fun r => if r = i then g else G r) := by
  apply List.ext_getElem?
  intro j
  by_cases hj : j < n
  · rw [rowsL_get hj]
    by_cases hij : i = j
    · subst hij
      rw [List.getElem?_set_self (by simpa [rowsL] using hj)]; simp
    · rw [List.getElem?_set_ne hij, rowsL_get hj]
      by_cases h1 : j < i
      · rw [if_pos h1, if_pos (by omega), if_neg (by omega)]
      · rw [if_neg h1, if_neg (by omega)]
  · rw [List.getElem?_eq_none (by simp [rowsL]; omega), List.getElem?_eq_none (by simp [rowsL]; omega)]
theorem rowsL_made (n : Nat) (G : Nat → Nat) : madeCells #[.slice none 0 0] n = (rowsL n 0 G).toArray := by
  apply Array.ext'
  simp [madeCells, rowsL, Nat.mod_one]
theorem bools_info : (Try.prog.info? 45).map (fun i => (i.zero, i.size, i.bytes)) = some (some (.slice none 0 0), 1, 24) := by kernel_rfl
def upTo (k : Nat) (M : Nat → Bool) : Nat → Bool := fun q => decide (q < k) && M q
theorem upTo_zero (M : Nat → Bool) : upTo 0 M = fun _ => false := by funext q; simp [upTo]
theorem upTo_set {n k : Nat} {M : Nat → Bool} (h : k < n) : (mb n (upTo k M)).set k (.bool (M k)) = mb n (upTo (k + 1) M) := by
  apply List.ext_getElem?
  intro j
  by_cases hj : j < n
  · rw [mb_get hj]
    by_cases hij : k = j
    · subst hij
      rw [List.getElem?_set_self (by rw [mb_len]; exact hj)]; simp [upTo]
    · rw [List.getElem?_set_ne hij, mb_get hj]
      have : decide (j < k + 1) = decide (j < k) := by rw [decide_eq_decide]; omega
      simp [upTo, this]
  · rw [List.getElem?_eq_none (by simp [mb]; omega), List.getElem?_eq_none (by simp [mb]; omega)]
theorem upTo_all {n : Nat} {M : Nat → Bool} : mb n (upTo n M) = mb n M := by
  unfold mb
  apply List.map_congr_left
  intro j hj
  have := List.mem_range.1 hj
  simp [upTo, this]
theorem gb_below {w w' : World} {g : Nat} (h : Below w.heap.size w w') : w.grownBy w' (some g) := ⟨h.os, h.tape, h.output, h.size, fun k hk _ => h.block k hk⟩
theorem gb_set (w : World) (g o : Nat) (v : Value) : w.grownBy (w.setCell ⟨g, o, none⟩ v) (some g) :=
  ⟨rfl, rfl, rfl, by simp [World.setCell], fun k hk hne => Below.heap_setCell _ _ _ _ (by intro e; exact hne (by have e' : k = g := e; rw [e']))⟩
theorem IntsR.gb {w w' : World} {g : Nat} {A : Option Addr} {n : Nat} {l : List Int} (h : IntsR w A n l) (hg : w.grownBy w' (some g)) (hN : 0 < n → ∀ b off sp, A = some ⟨b, off, sp⟩ → b ≠ g) : IntsR w' A n l := by
  by_cases hn : 0 < n
  · obtain ⟨b, off, rfl, hb, _⟩ := h.2.2 hn
    exact h.of_heap hg.size (fun b' off' sp' e => by
      injection e with e; injection e with e1 e2 e3
      subst e1
      exact hg.block b hb (fun e => hN hn b off none rfl (by injection e)))
  · exact ⟨h.1, h.2.1, fun h' => absurd h' hn⟩
def RowOk (w : World) (g0 n : Nat) (certs : List CertD) (low : Int) (G : Nat → Nat) (r : Nat) : Prop := g0 < G r ∧ Blk w (G r) 4 (mb n (marksS certs low r))

set_option maxRecDepth 100000 in
set_option maxHeartbeats 4000000 in
theorem law_PathGoes (A : Option Addr) (n c : Nat) (D : DagD) (iA : Option Addr) (im ic : Nat) (Is : List Int) (lA : Option Addr) (lm lc : Nat) (Lo : List Int) (w : World) (hl : CertsR w A n D.certs) (hi : IntsR w iA im Is) (hL : IntsR w lA lm Lo) :
    Calls Try.prog 5 #[.agg #[.int .i64 D.nodes, .int .i64 D.low, .slice A n c, .slice iA im ic, .slice lA lm lc]] w fun e w' => e = .returned (.bool true) ∧ Below w.heap.size w w' := by
  have HL := Lib.hid hl
  have HN := Lib.hid hl.1
  clear hl hi hL
  go_enter Try.func5, Try.ntmps5
  go_wp2_with fail
  refine (law15_heavy _ _ _ _ _ D.certs _ _ _ _ _ _ _ (HL.out.up (by (repeat (first | (with_reducible exact Below.refl _ _) | (with_reducible assumption) | (with_reducible apply bel_alloc) | (with_reducible apply bel_drew) | (with_reducible apply bel_drewN) | (with_reducible refine bel_trans ?_ (by with_reducible assumption)) | (with_reducible refine bel_trans ?_ (HF.out _)) | (with_reducible refine bel_set ?_ (by simp) _) | (with_reducible refine bel_set ?_ (by simp; omega) _) | (with_reducible refine bel_set ?_ (by omega) _)))))).mono ?_
  rintro e w1 ⟨⟨x, rfl⟩, hb1⟩
  have hz_w1 : w.heap.size + 1 ≤ w1.heap.size := (by have hq := (hb1).size; (try simp at hq); omega); have hc0_w1 := fun o => (bcell hb1).1 (w.heap.size) o (by first | (simp; done) | (simp; omega) | omega)
  cases x
  case true =>
    go_wp2_with fail
    go_ret
    exact ⟨rfl, by (repeat (first | (with_reducible exact Below.refl _ _) | (with_reducible assumption) | (with_reducible apply bel_alloc) | (with_reducible apply bel_drew) | (with_reducible apply bel_drewN) | (with_reducible refine bel_trans ?_ (by with_reducible assumption)) | (with_reducible refine bel_trans ?_ (HF.out _)) | (with_reducible refine bel_set ?_ (by simp) _) | (with_reducible refine bel_set ?_ (by simp; omega) _) | (with_reducible refine bel_set ?_ (by omega) _)))⟩
  case false =>
    go_wp2_with fail
    refine (ref14_May A n c D _ (HL.out.up (by (repeat (first | (with_reducible exact Below.refl _ _) | (with_reducible assumption) | (with_reducible apply bel_alloc) | (with_reducible apply bel_drew) | (with_reducible apply bel_drewN) | (with_reducible refine bel_trans ?_ (by with_reducible assumption)) | (with_reducible refine bel_trans ?_ (HF.out _)) | (with_reducible refine bel_set ?_ (by simp) _) | (with_reducible refine bel_set ?_ (by simp; omega) _) | (with_reducible refine bel_set ?_ (by omega) _)))))).mono ?_
    rintro e w2 ⟨rfl, hb2⟩
    rw [may_eq]
    have hB2 : BoxR w2 w.heap.size [.int .i64 D.nodes, .int .i64 D.low, .slice A n c, .slice iA im ic, .slice lA lm lc] := ((BoxR.new w [.int .i64 D.nodes, .int .i64 D.low, .slice A n c, .slice iA im ic, .slice lA lm lc] 27).up hb1).up hb2
    have hbw2 : Below w.heap.size w w2 := by (repeat (first | (with_reducible exact Below.refl _ _) | (with_reducible assumption) | (with_reducible apply bel_alloc) | (with_reducible apply bel_drew) | (with_reducible apply bel_drewN) | (with_reducible refine bel_trans ?_ (by with_reducible assumption)) | (with_reducible refine bel_trans ?_ (HF.out _)) | (with_reducible refine bel_set ?_ (by simp) _) | (with_reducible refine bel_set ?_ (by simp; omega) _) | (with_reducible refine bel_set ?_ (by omega) _)))
    clear hc0_w1 hz_w1
    have b_0 := (hB2).2 0 _ rfl; have b_1 := (hB2).2 1 _ rfl; have b_2 := (hB2).2 2 _ rfl; have b_3 := (hB2).2 3 _ rfl; have b_4 := (hB2).2 4 _ rfl
    cases hm : mayS D
    · go_wp2_with fail
      go_ret
      exact ⟨rfl, hbw2⟩
    · by_cases hn25 : 25 < n
      · clear hm
        go_wp2_with fail
        go_ret
        exact ⟨rfl, hbw2⟩
      · have hok := mayS_iff.1 hm
        have hd0 : 0 ≤ D.low := hok.2.1
        have HOK := Lib.hid hok; clear hok
        have HM := Lib.hid hm; clear hm
        have hn : n ≤ 25 := by omega
        have hmk1 : ∀ u : World, (Instr.makeSlice 44 (.int .i64 n) (.int .i64 n)).run Try.prog u = .ok (.slice (some ⟨u.heap.size, 0, none⟩) n n) (u.alloc (.cells (rowsL n 0 (fun _ => 0)).toArray 45)) := fun u => by
          rw [run_make_row' 44 45 (.slice none 0 0) 24 Try.underlying44 bools_info rfl .i64 .i64 n (by omega) (by omega) u, rowsL_made n (fun _ => 0)]
        have hmk2 : ∀ u : World, (Instr.makeSlice 45 (.int .i64 n) (.int .i64 n)).run Try.prog u = .ok (.slice (some ⟨u.heap.size, 0, none⟩) n n) (u.alloc (.cells (mb n (fun _ => false)).toArray 4)) := fun u => by
          rw [run_make_row' 45 4 (.bool false) 1 Try.underlying45 bool_info rfl .i64 .i64 n (by omega) (by omega) u, mb_made]
        obtain ⟨g0, hg0⟩ : ∃ g0, g0 = w2.heap.size := ⟨_, rfl⟩
        have HG0 := Lib.hid hg0
        go_wp2_with fail
        rw [← hg0]
        clear hg0
        go_loopw [5] (fun ix wr => ∃ (i : Nat) (G : Nat → Nat), i ≤ n ∧ ix = .int .i64 i ∧ Below w2.heap.size w2 wr ∧ Blk wr g0 45 (rowsL n i G) ∧ Hid (∀ r, r < i → RowOk wr g0 n D.certs D.low G r)) (fun ix _ => n - (intOf ix).toNat)
        case atStart => exact ⟨0, fun _ => 0, Nat.zero_le _, rfl, by (repeat (first | (with_reducible exact Below.refl _ _) | (with_reducible assumption) | (with_reducible apply bel_alloc) | (with_reducible apply bel_drew) | (with_reducible apply bel_drewN) | (with_reducible refine bel_trans ?_ (by with_reducible assumption)) | (with_reducible refine bel_trans ?_ (HF.out _)) | (with_reducible refine bel_set ?_ (by simp) _) | (with_reducible refine bel_set ?_ (by simp; omega) _) | (with_reducible refine bel_set ?_ (by omega) _))), by rw [HG0.out]; exact Blk.new _ _ _, fun r hr => absurd hr (by omega)⟩
        case round =>
          clear b_0 b_1 b_2 b_3 b_4
          obtain ⟨i, G, hi, rfl, hbx, hK, hrows⟩ := hrel
          (obtain ⟨wi, hwi⟩ : ∃ x, x = wr := ⟨_, rfl⟩); subst hwi
          have hBi := hB2.up hbx
          have b_0 := (hBi).2 0 _ rfl; have b_1 := (hBi).2 1 _ rfl; have b_2 := (hBi).2 2 _ rfl; have b_3 := (hBi).2 3 _ rfl; have b_4 := (hBi).2 4 _ rfl
          by_cases hlt : i < n
          · obtain ⟨b, off, rfl, hb, hc⟩ := HL.out.2.2 (by omega)
            obtain ⟨p, hat, hcr⟩ := hc i hlt
            have hbw : Below w.heap.size w wi := bel_trans hbw2 hbx
            obtain ⟨c0, c1, c2, c3, c4, c5⟩ := hat.up hbw hb
            obtain ⟨⟨⟨bA, bn, bc⟩, ⟨pA, pn, pc⟩⟩, ⟨sA, sn, sc⟩⟩ := p
            dsimp only at c0 c1 c2 c3 c4 c5
            have hin : i < D.certs.length := by rw [HN.out]; exact hlt
            have hro := mayS_ro HM.out hin
            have hr1 : 1 ≤ (cth D.certs i).h.ro := hro.1
            have hr2 : (cth D.certs i).h.ro ≤ 1099511627776 := hro.2
            have hpa : IntsR w pA pn (cth D.certs i).h.pa := hcr.1.2
            have HPA := Lib.hid hpa
            have hlt0 : w.heap.size < wi.heap.size := hBi.1
            have hgb : g0 < wi.heap.size := hK.lt
            have hea := HOK.out.dist.find hin
            have hq := below_ok HM.out (a := (cth D.certs i).di) 0 hea
            have HQ := Lib.hid hq
            have HEA := Lib.hid hea
            have HCC := Lib.hid hc
            have hKc := hK.box.2 i _ (rowsL_get hlt)
            have hKf := hK.frozen i
            have hg00 : w.heap.size < g0 := by rw [HG0.out]; exact hB2.1
            have hg01 : b < g0 := by have := hbw2.size; rw [HG0.out]; omega
            clear hc hat hcr hro hq hea hpa
            have hbr : b < wi.heap.size := by omega
            have hne1 : ¬ b = g0 := by omega
            have hne2 : ¬ g0 = b := by omega
            have hne3 : ¬ w.heap.size = g0 := by omega
            have hne4 : ¬ g0 = w.heap.size := by omega
            have hg0w : g0 = w2.heap.size := HG0.out
            have hbs : Below w2.heap.size w2 (wi.setCell ⟨g0, i, none⟩ (.slice (some ⟨wi.heap.size, 0, none⟩) n n)) := hbx.setCell (by show w2.heap.size ≤ g0; omega) _
            have hb12 : Below ((wi.setCell ⟨g0, i, none⟩ (.slice (some ⟨wi.heap.size, 0, none⟩) n n))).heap.size (wi.setCell ⟨g0, i, none⟩ (.slice (some ⟨wi.heap.size, 0, none⟩) n n)) (((wi.setCell ⟨g0, i, none⟩ (.slice (some ⟨wi.heap.size, 0, none⟩) n n)).alloc (.cells (mb n (fun _ => false)).toArray 4)).alloc (.cells #[.int .i64 (cth D.certs i).h.au, .int .i64 (cth D.certs i).h.ro, .slice bA bn bc, .slice pA pn pc, .int .i64 (cth D.certs i).di, .slice sA sn sc] 49)) := bel_alloc (bel_alloc (Below.refl _ _))
            have hbX : Below w2.heap.size w2 (((wi.setCell ⟨g0, i, none⟩ (.slice (some ⟨wi.heap.size, 0, none⟩) n n)).alloc (.cells (mb n (fun _ => false)).toArray 4)).alloc (.cells #[.int .i64 (cth D.certs i).h.au, .int .i64 (cth D.certs i).h.ro, .slice bA bn bc, .slice pA pn pc, .int .i64 (cth D.certs i).di, .slice sA sn sc] 49)) := bel_trans hbs hb12
            have hszX : ((wi.setCell ⟨g0, i, none⟩ (.slice (some ⟨wi.heap.size, 0, none⟩) n n))).heap.size = wi.heap.size := by simp [World.setCell]
            have hK0 : Blk (wi.setCell ⟨g0, i, none⟩ (.slice (some ⟨wi.heap.size, 0, none⟩) n n)) g0 45 (rowsL n (i + 1) (fun r => if r = i then wi.heap.size else G r)) := by rw [← rowsL_set hlt]; exact hK.set_ _ _
            have hrow0 : ∀ r, r < i → RowOk (wi.setCell ⟨g0, i, none⟩ (.slice (some ⟨wi.heap.size, 0, none⟩) n n)) g0 n D.certs D.low G r := fun r hr => ⟨(hrows.out r hr).1, (hrows.out r hr).2.far (by show G r ≠ g0; have := (hrows.out r hr).1; omega) _⟩
            have hnew0 : Blk ((wi.setCell ⟨g0, i, none⟩ (.slice (some ⟨wi.heap.size, 0, none⟩) n n)).alloc (.cells (mb n (fun _ => false)).toArray 4)) wi.heap.size 4 (mb n (fun _ => false)) := Blk.new' _ _ () (by rw [hszX]) rfl
            have hbA0 : BoxR (((wi.setCell ⟨g0, i, none⟩ (.slice (some ⟨wi.heap.size, 0, none⟩) n n)).alloc (.cells (mb n (fun _ => false)).toArray 4)).alloc (.cells #[.int .i64 (cth D.certs i).h.au, .int .i64 (cth D.certs i).h.ro, .slice bA bn bc, .slice pA pn pc, .int .i64 (cth D.certs i).di, .slice sA sn sc] 49)) (wi.heap.size + 1) [.int .i64 (cth D.certs i).h.au, .int .i64 (cth D.certs i).h.ro, .slice bA bn bc, .slice pA pn pc, .int .i64 (cth D.certs i).di, .slice sA sn sc] := BoxR.new' _ [.int .i64 (cth D.certs i).h.au, .int .i64 (cth D.certs i).h.ro, .slice bA bn bc, .slice pA pn pc, .int .i64 (cth D.certs i).di, .slice sA sn sc] 49 (by simp [World.setCell])
            have HKA := Lib.hid hK0
            have HRA := Lib.hid hrow0
            have HNA := Lib.hid hnew0
            have HBA := Lib.hid hbA0
            have HBX := Lib.hid hbX
            clear hbs hb12 hK0 hrow0 hnew0 hbA0 hbX hszX hg0w
            go_wp2_with fail
            refine (path_Below _ _ _ D _ _ _ (HL.out.up (bel_trans hbw2 HBX.out))).mono ?_
            rintro e w3 ⟨v, rfl, hown, hb3⟩
            rw [HQ.out.2]
            rw [HQ.out.1] at hown
            have hb3' : Below w2.heap.size w2 w3 := bel_trans HBX.out hb3
            have hX0 : Below ((wi.setCell ⟨g0, i, none⟩ (.slice (some ⟨wi.heap.size, 0, none⟩) n n))).heap.size (wi.setCell ⟨g0, i, none⟩ (.slice (some ⟨wi.heap.size, 0, none⟩) n n)) w3 := bel_trans (bel_alloc (bel_alloc (Below.refl _ _))) hb3
            have hX1 : Below ((wi.setCell ⟨g0, i, none⟩ (.slice (some ⟨wi.heap.size, 0, none⟩) n n)).alloc (.cells (mb n (fun _ => false)).toArray 4)).heap.size ((wi.setCell ⟨g0, i, none⟩ (.slice (some ⟨wi.heap.size, 0, none⟩) n n)).alloc (.cells (mb n (fun _ => false)).toArray 4)) w3 := bel_trans (bel_alloc (Below.refl _ _)) hb3
            have hK3 := HKA.out.up hX0
            have hR3 : ∀ r, r < i → RowOk w3 g0 n D.certs D.low G r := fun r hr => ⟨(HRA.out r hr).1, (HRA.out r hr).2.up hX0⟩
            have hN3 := HNA.out.up hX1
            have hA3 := HBA.out.up hb3
            have hB3 := hB2.up hb3'
            clear HKA HRA HNA HBA hX0 hX1
            obtain ⟨l, hl⟩ : ∃ l, l = belowS D.certs D.low 0 i := ⟨_, rfl⟩
            have hll : l.length ≤ n := by rw [hl, ← HN.out]; exact belowS_len _ _ _ _
            rw [← hl] at hown
            have HLL := Lib.hid hl
            obtain ⟨xA, xc, rfl, hint, hge⟩ := hown.ints (by omega)
            have HINT := Lib.hid hint
            have hge' : ∀ b off sp, xA = some ⟨b, off, sp⟩ → b ≠ wi.heap.size := fun b off sp e => by have := hge b off sp e; simp [World.setCell] at this; omega
            have HGE := Lib.hid hge'
            have hwi2 : w2.heap.size ≤ wi.heap.size := hbx.size
            have hb3w := Lib.hid hb3'
            have HK3 := Lib.hid hK3
            have HR3 := Lib.hid hR3
            clear hl hown hint hge hge' hb3' hKc hKf b_0 b_1 b_2 b_3 b_4 c0 c1 c2 c3 c4 c5 hK3 hR3 hb3
            have b_0 := (hB3).2 0 _ rfl; have b_1 := (hB3).2 1 _ rfl; have b_2 := (hB3).2 2 _ rfl; have b_3 := (hB3).2 3 _ rfl; have b_4 := (hB3).2 4 _ rfl
            go_wp2_with (go_at_call 20; refine (law15_num _ _).mono ?_; rintro e w' ⟨rfl, rfl⟩)
            go_loopw [9] (fun ix wr => ∃ k : Nat, k ≤ n ∧ ix = .int .i64 k ∧ w3.grownBy wr (some wi.heap.size) ∧ Blk wr wi.heap.size 4 (mb n (upTo k (marksS D.certs D.low i)))) (fun ix _ => n - (intOf ix).toNat)
            case atStart => exact ⟨0, Nat.zero_le _, rfl, World.grownBy.refl _ _, by rw [upTo_zero]; exact hN3⟩
            case round =>
              clear b_0 b_1 b_2 b_3 b_4 hN3
              obtain ⟨k, hk, rfl, hgr, hN⟩ := hrel
              (obtain ⟨wk, hwk⟩ : ∃ x, x = wr := ⟨_, rfl⟩); subst hwk
              have hbk : Below w2.heap.size w2 wk := bel_grown hb3w.out hgr hwi2
              have hBk := hB2.up hbk
              have hAk := hA3.grown hgr (by omega)
              have hbwk : Below w.heap.size w wk := bel_trans hbw2 hbk
              have b_0 := (hBk).2 0 _ rfl; have b_1 := (hBk).2 1 _ rfl; have b_2 := (hBk).2 2 _ rfl; have b_3 := (hBk).2 3 _ rfl; have b_4 := (hBk).2 4 _ rfl
              have a_0 := (hAk).2 0 _ rfl; have a_1 := (hAk).2 1 _ rfl; have a_2 := (hAk).2 2 _ rfl; have a_3 := (hAk).2 3 _ rfl; have a_4 := (hAk).2 4 _ rfl; have a_5 := (hAk).2 5 _ rfl
              by_cases hkn : k < n
              · obtain ⟨pk, hatk, _⟩ := HCC.out k hkn
                obtain ⟨d0, d1, d2, d3, d4, d5⟩ := hatk.up hbwk hb
                obtain ⟨⟨⟨kbA, kbn, kbc⟩, ⟨kpA, kpn, kpc⟩⟩, ⟨ksA, ksn, ksc⟩⟩ := pk
                dsimp only at d0 d1 d2 d3 d4 d5
                have hkin : k < D.certs.length := by rw [HN.out]; exact hkn
                have hrk := (mayS_ro HM.out hkin).1
                have hrk2 := (mayS_ro HM.out hkin).2
                have hbrk : b < wk.heap.size := by have := hbwk.size; omega
                have hg0k : w.heap.size < wk.heap.size := hBk.1
                have hgak : wi.heap.size + 1 < wk.heap.size := hAk.1
                have hr := reach_ok HM.out HEA.out (HOK.out.dist.find hkin)
                have HR := Lib.hid hr
                clear hatk hr
                go_wp2_with fail
                refine (path_Reach _ _ _ D _ _ _ (HL.out.up (bel_trans hbwk (by (repeat (first | (with_reducible exact Below.refl _ _) | (with_reducible assumption) | (with_reducible apply bel_alloc) | (with_reducible apply bel_drew) | (with_reducible apply bel_drewN) | (with_reducible refine bel_trans ?_ (by with_reducible assumption)) | (with_reducible refine bel_trans ?_ (HF.out _)) | (with_reducible refine bel_set ?_ (by simp) _) | (with_reducible refine bel_set ?_ (by simp; omega) _) | (with_reducible refine bel_set ?_ (by omega) _))))))).mono ?_
                rintro e w6 ⟨rfl, hb6⟩
                rw [HR.out.1, HR.out.2]
                have bs : Below wk.heap.size wk w6 := bel_trans (bel_alloc (Below.refl _ _)) hb6
                have hB6 := hBk.up bs
                have hA6 := hAk.up bs
                have hb6b := (BoxR.new wk [.int .i64 (cth D.certs k).h.au, .int .i64 (cth D.certs k).h.ro, .slice kbA kbn kbc, .slice kpA kpn kpc, .int .i64 (cth D.certs k).di, .slice ksA ksn ksc] 49).up hb6
                have hN6 := hN.up bs
                have hK6 := (HK3.out.grown hgr (by omega)).up bs
                have hmi : w6.cell? ⟨g0, i, none⟩ = some (.slice (some ⟨wi.heap.size, 0, none⟩) n n) := by have := hK6.box.2 i _ (rowsL_get hlt); simpa using this
                have hNc := hN6.box.2 k _ (mb_get hkn)
                have hNf := hN6.frozen k
                have hil : IntsR w6 xA l.length l := (HINT.out.gb hgr (fun _ b off sp e => HGE.out b off sp e)).up bs
                have hip : IntsR w6 pA pn (cth D.certs i).h.pa := (HPA.out.up hbwk).up bs
                have HIL := Lib.hid hil
                have HIP := Lib.hid hip
                have hgr6 : w3.grownBy w6 (some wi.heap.size) := hgr.trans (gb_below bs)
                have hsub : decide (0 ≤ inS l (cth D.certs k).di) = marksS D.certs D.low i k := by rw [inS_ge, HLL.out, goes_below HOK.out i hkin]
                have hself : i = k → marksS D.certs D.low i k = true := fun e => by rw [← e]; exact marksS_self HOK.out hin
                have hupw : i ≠ k → marksS D.certs D.low i k = true → (cth D.certs k).h.ro < (cth D.certs i).h.ro := fun hne hm => goes_up HOK.out hin hne hm
                have hpar : (cth D.certs k).h.ro = (cth D.certs i).h.ro - 1 → hasS (cth D.certs i).h.pa (cth D.certs k).di = true → marksS D.certs D.low i k = true := fun h1 h2 => goes_parent HOK.out hin hkin h1 h2
                clear hK6 hil hip d0 d1 d2 d3 d4 d5 b_0 b_1 b_2 b_3 b_4 a_0 a_1 a_2 a_3 a_4 a_5 hb6 hrk hrk2
                obtain ⟨M, hM⟩ : ∃ M, M = marksS D.certs D.low i k := ⟨_, rfl⟩
                rw [← hM] at hsub hself hupw hpar ⊢
                have HMM := Lib.hid hM
                clear hM
                have hfin : ∀ v, v = Value.bool M → Blk (w6.setCell ⟨wi.heap.size, k, none⟩ v) wi.heap.size 4 (mb n (upTo (k + 1) (marksS D.certs D.low i))) := fun v hv => by
                  rw [← upTo_set hkn, ← HMM.out, ← hv]; exact hN6.set_ _ _
                have HFIN := Lib.hid hfin
                clear hfin hN6 hN
                have a_0 := (hA6).2 0 _ rfl; have a_1 := (hA6).2 1 _ rfl; have a_2 := (hA6).2 2 _ rfl; have a_3 := (hA6).2 3 _ rfl; have a_4 := (hA6).2 4 _ rfl; have a_5 := (hA6).2 5 _ rfl
                have d_0 := (hb6b).2 0 _ rfl; have d_1 := (hb6b).2 1 _ rfl; have d_2 := (hb6b).2 2 _ rfl; have d_3 := (hb6b).2 3 _ rfl; have d_4 := (hb6b).2 4 _ rfl; have d_5 := (hb6b).2 5 _ rfl
                cases M
                case' false =>
                  have hik : i ≠ k := fun e => by have := hself e; cases this
                  have he1 : ((i : Int) == (k : Int)) = false := by rw [beq_eq_false_iff_ne]; omega
                  have he2 : (i == k) = false := by simpa using hik
                  have hn1 : ((i : Int) != (k : Int)) = true := by rw [bne_iff_ne]; omega
                  have hn2 : (i != k) = true := by simpa using hik
                  by_cases hq : (cth D.certs k).h.ro = (cth D.certs i).h.ro - 1
                  case' pos =>
                    have hq1 : ((cth D.certs k).h.ro == (cth D.certs i).h.ro - 1) = true := by simpa using hq
                    have hd2 : decide (0 ≤ inS (cth D.certs i).h.pa (cth D.certs k).di) = false := by
                      rw [inS_ge]; cases h : hasS (cth D.certs i).h.pa (cth D.certs k).di
                      · rfl
                      · have := hpar hq h; cases this
                  case' neg =>
                    have hq1 : ((cth D.certs k).h.ro == (cth D.certs i).h.ro - 1) = false := by simpa using hq
                case' true =>
                  cases hq1 : ((cth D.certs k).h.ro == (cth D.certs i).h.ro - 1)
                  case' false =>
                    by_cases hik : i = k
                    case' pos =>
                      have he1 : ((i : Int) == (k : Int)) = true := by rw [beq_iff_eq]; omega
                      have he2 : (i == k) = true := by simpa using hik
                      have hn1 : ((i : Int) != (k : Int)) = false := by rw [bne_eq_false_iff_eq]; omega
                      have hn2 : (i != k) = false := by simpa using hik
                    case' neg =>
                      have he1 : ((i : Int) == (k : Int)) = false := by rw [beq_eq_false_iff_ne]; omega
                      have he2 : (i == k) = false := by simpa using hik
                      have hn1 : ((i : Int) != (k : Int)) = true := by rw [bne_iff_ne]; omega
                      have hn2 : (i != k) = true := by simpa using hik
                      have hgt : decide ((cth D.certs i).h.ro ≤ (cth D.certs k).h.ro) = false := by have := hupw hik rfl; simp; omega
                  case' true =>
                    cases hh2 : hasS (cth D.certs i).h.pa (cth D.certs k).di
                    all_goals
                      have hd2 := (inS_ge (cth D.certs i).h.pa (cth D.certs k).di).trans hh2
                      clear hh2
                      by_cases hik : i = k
                      case' pos =>
                        have he1 : ((i : Int) == (k : Int)) = true := by rw [beq_iff_eq]; omega
                        have he2 : (i == k) = true := by simpa using hik
                        have hn1 : ((i : Int) != (k : Int)) = false := by rw [bne_eq_false_iff_eq]; omega
                        have hn2 : (i != k) = false := by simpa using hik
                      case' neg =>
                        have he1 : ((i : Int) == (k : Int)) = false := by rw [beq_eq_false_iff_ne]; omega
                        have he2 : (i == k) = false := by simpa using hik
                        have hn1 : ((i : Int) != (k : Int)) = true := by rw [bne_iff_ne]; omega
                        have hn2 : (i != k) = true := by simpa using hik
                        have hgt : decide ((cth D.certs i).h.ro ≤ (cth D.certs k).h.ro) = false := by have := hupw hik rfl; simp; omega
                all_goals
                  clear hself hupw hpar hik
                  try clear hq
                  go_wp2_with (first
                    | (go_at_call 20; refine (law15_num _ _).mono ?_; rintro e w' ⟨rfl, rfl⟩)
                    | (go_at_call 28; first | ((with_reducible refine (ref0_In xA l.length xc l _ _ HIL.out).mono ?_); rintro e w' ⟨rfl, rfl⟩) | ((with_reducible refine (ref0_In pA pn pc (cth D.certs i).h.pa _ _ HIP.out).mono ?_); rintro e w' ⟨rfl, rfl⟩)))
                  (first | (go_round; (case rel => exact ⟨k + 1, by omega, by go_num, hgr6.trans (gb_set _ _ _ _), HFIN.out _ rfl⟩); (case measure => (simp [intOf] <;> omega))) | (go_roundw; (case rel => exact ⟨k + 1, by omega, by go_num, hgr6.trans (gb_set _ _ _ _), HFIN.out _ rfl⟩); (case measure => (simp [intOf] <;> omega))) | (refine ⟨?_, by simp [intOf] <;> omega⟩; (repeat apply Exists.intro); refine ⟨?rel, ?fr⟩; (case fr => ((repeat' apply And.intro) <;> rfl)); (case rel => exact ⟨k + 1, by omega, by go_num, hgr6.trans (gb_set _ _ _ _), HFIN.out _ rfl⟩)))
              · have ekn : n = k := by omega
                subst ekn
                rw [upTo_all] at hN
                have hrowF : ∀ r, r < i + 1 → RowOk wk g0 n D.certs D.low (fun r => if r = i then wi.heap.size else G r) r := fun r hr => by
                  unfold RowOk
                  dsimp only
                  by_cases hri : r = i
                  · rw [if_pos hri, hri]; exact ⟨hgb, hN⟩
                  · rw [if_neg hri]
                    have h1 := HR3.out r (by omega)
                    have h2 := (hrows.out r (by omega)).2.lt
                    exact ⟨h1.1, h1.2.grown hgr (by omega)⟩
                have HRF := Lib.hid hrowF
                clear hrowF
                go_wp2_with fail
                (first | (go_round; (case rel => exact ⟨i + 1, (fun r => if r = i then wi.heap.size else G r), by omega, by go_num, hbk, HK3.out.grown hgr (by omega), HRF⟩); (case measure => (simp [intOf] <;> omega))) | (go_roundw; (case rel => exact ⟨i + 1, (fun r => if r = i then wi.heap.size else G r), by omega, by go_num, hbk, HK3.out.grown hgr (by omega), HRF⟩); (case measure => (simp [intOf] <;> omega))) | (refine ⟨?_, by simp [intOf] <;> omega⟩; (repeat apply Exists.intro); refine ⟨?rel, ?fr⟩; (case fr => ((repeat' apply And.intro) <;> rfl)); (case rel => exact ⟨i + 1, (fun r => if r = i then wi.heap.size else G r), by omega, by go_num, hbk, HK3.out.grown hgr (by omega), HRF⟩)))
          · have ein : n = i := by omega
            subst ein
            have hrowc : ∀ r, r < n → wi.cell? ⟨g0, r, none⟩ = some (.slice (some ⟨G r, 0, none⟩) n n) := fun r hr => by have := hK.box.2 r _ (rowsL_get hr); simpa [hr] using this
            have hbitc : ∀ r k, r < n → k < n → wi.cell? ⟨G r, k, none⟩ = some (.bool (marksS D.certs D.low r k)) := fun r k hr hk => (hrows.out r hr).2.box.2 k _ (mb_get hk)
            have HRW := Lib.hid hrowc
            have HBT := Lib.hid hbitc
            clear hrowc hbitc
            go_wp2_with fail
            go_loop [14] (fun ix => ∃ a : Nat, a ≤ n ∧ ix = .int .i64 a) (fun ix => n - (intOf ix).toNat)
            case atStart => exact ⟨0, Nat.zero_le _, rfl⟩
            case round =>
              obtain ⟨a, ha, rfl⟩ := hrel
              by_cases han : a < n
              · go_wp2_with fail
                go_loop [15] (fun ix => ∃ q : Nat, q ≤ n ∧ ix = .int .i64 q) (fun ix => n - (intOf ix).toNat)
                case atStart => exact ⟨0, Nat.zero_le _, rfl⟩
                case round =>
                  obtain ⟨q, hq, rfl⟩ := hrel
                  by_cases hqn : q < n
                  · go_wp2_with fail
                    go_loop [16] (fun ix => ∃ j : Nat, j ≤ n ∧ ix = .int .i64 j) (fun ix => n - (intOf ix).toNat)
                    case atStart => exact ⟨0, Nat.zero_le _, rfl⟩
                    case round =>
                      obtain ⟨j, hj, rfl⟩ := hrel
                      by_cases hjn : j < n
                      · have r1 := HRW.out a han
                        have b1 := HBT.out a q han hqn
                        cases h1 : marksS D.certs D.low a q
                        · rw [h1] at b1
                          clear h1
                          go_wp2_with fail
                          (first | (go_round; (case rel => exact ⟨q + 1, by omega, by go_num⟩); (case measure => (simp [intOf] <;> omega))) | (go_roundw; (case rel => exact ⟨q + 1, by omega, by go_num⟩); (case measure => (simp [intOf] <;> omega))) | (refine ⟨?_, by simp [intOf] <;> omega⟩; (repeat apply Exists.intro); refine ⟨?rel, ?fr⟩; (case fr => ((repeat' apply And.intro) <;> rfl)); (case rel => exact ⟨q + 1, by omega, by go_num⟩)))
                        · rw [h1] at b1
                          have r2 := HRW.out q hqn
                          have b2 := HBT.out q j hqn hjn
                          cases h2 : marksS D.certs D.low q j
                          · rw [h2] at b2
                            clear h1 h2
                            go_wp2_with fail
                            (first | (go_round; (case rel => exact ⟨j + 1, by omega, by go_num⟩); (case measure => (simp [intOf] <;> omega))) | (go_roundw; (case rel => exact ⟨j + 1, by omega, by go_num⟩); (case measure => (simp [intOf] <;> omega))) | (refine ⟨?_, by simp [intOf] <;> omega⟩; (repeat apply Exists.intro); refine ⟨?rel, ?fr⟩; (case fr => ((repeat' apply And.intro) <;> rfl)); (case rel => exact ⟨j + 1, by omega, by go_num⟩)))
                          · have h3 := goes_trans HOK.out (by rw [HN.out]; exact han) (by rw [HN.out]; exact hqn) h1 h2
                            have b3 := HBT.out a j han hjn
                            rw [h2] at b2
                            rw [h3] at b3
                            clear h1 h2 h3
                            go_wp2_with fail
                            (first | (go_round; (case rel => exact ⟨j + 1, by omega, by go_num⟩); (case measure => (simp [intOf] <;> omega))) | (go_roundw; (case rel => exact ⟨j + 1, by omega, by go_num⟩); (case measure => (simp [intOf] <;> omega))) | (refine ⟨?_, by simp [intOf] <;> omega⟩; (repeat apply Exists.intro); refine ⟨?rel, ?fr⟩; (case fr => ((repeat' apply And.intro) <;> rfl)); (case rel => exact ⟨j + 1, by omega, by go_num⟩)))
                      · go_wp2_with fail
                        (first | (go_round; (case rel => exact ⟨q + 1, by omega, by go_num⟩); (case measure => (simp [intOf] <;> omega))) | (go_roundw; (case rel => exact ⟨q + 1, by omega, by go_num⟩); (case measure => (simp [intOf] <;> omega))) | (refine ⟨?_, by simp [intOf] <;> omega⟩; (repeat apply Exists.intro); refine ⟨?rel, ?fr⟩; (case fr => ((repeat' apply And.intro) <;> rfl)); (case rel => exact ⟨q + 1, by omega, by go_num⟩)))
                  · go_wp2_with fail
                    (first | (go_round; (case rel => exact ⟨a + 1, by omega, by go_num⟩); (case measure => (simp [intOf] <;> omega))) | (go_roundw; (case rel => exact ⟨a + 1, by omega, by go_num⟩); (case measure => (simp [intOf] <;> omega))) | (refine ⟨?_, by simp [intOf] <;> omega⟩; (repeat apply Exists.intro); refine ⟨?rel, ?fr⟩; (case fr => ((repeat' apply And.intro) <;> rfl)); (case rel => exact ⟨a + 1, by omega, by go_num⟩)))
              · go_wp2_with (go_at_call 21; refine (law15_wakes _).mono ?_; rintro e w9 ⟨rfl, hb9⟩)
                go_ret
                exact ⟨rfl, bel_trans (bel_trans hbw2 hbx) hb9⟩
end Go.Proofs.Ythpljlffjbodpaa
