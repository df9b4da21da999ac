/- Chains of anchors, at the program. -/
import Derived.Test.YthpljlffjbodpaaFe
namespace Go.Proofs.Ythpljlffjbodpaa
open Go.RowKit
set_option linter.unusedSimpArgs false
set_option linter.unusedVariables false

/-- What a walk back from round q tells, at place k. -/
def backL (D : DagD) (after : Int) : Nat → Int → Nat → List Int
  | 0, _, _ => []
  | m + 1, q, k =>
    if q - 2 ≤ after ∨ q - 2 ≤ D.low then [] else
    if anchS D (q - 2) = 0 then backL D after m (q - 2) k else
    if reachesS D.certs D.low k (findS D.certs (anchS D (q - 2))).toNat then anchS D (q - 2) :: backL D after m (q - 2) (findS D.certs (anchS D (q - 2))).toNat else backL D after m (q - 2) k
theorem backL_end {D : DagD} {after : Int} {m : Nat} {q : Int} {k : Nat} (h : q - 2 ≤ after ∨ q - 2 ≤ D.low) : backL D after m q k = [] := by
  cases m with
  | zero => rfl
  | succ m => simp [backL, h]
theorem backL_zero {D : DagD} {after : Int} {m : Nat} {q : Int} {k : Nat} (h : ¬ (q - 2 ≤ after ∨ q - 2 ≤ D.low)) (h1 : anchS D (q - 2) = 0) : backL D after (m + 1) q k = backL D after m (q - 2) k := by
  rw [backL, if_neg h, if_pos h1]
theorem backL_yes {D : DagD} {after : Int} {m : Nat} {q : Int} {k j : Nat} (h : ¬ (q - 2 ≤ after ∨ q - 2 ≤ D.low)) (h1 : ¬ anchS D (q - 2) = 0) (hj : findS D.certs (anchS D (q - 2)) = (j : Int)) (h2 : reachesS D.certs D.low k j = true) : backL D after (m + 1) q k = anchS D (q - 2) :: backL D after m (q - 2) j := by
  rw [backL, if_neg h, if_neg h1, hj, Int.toNat_natCast, if_pos h2]
theorem backL_no {D : DagD} {after : Int} {m : Nat} {q : Int} {k j : Nat} (h : ¬ (q - 2 ≤ after ∨ q - 2 ≤ D.low)) (h1 : ¬ anchS D (q - 2) = 0) (hj : findS D.certs (anchS D (q - 2)) = (j : Int)) (h2 : reachesS D.certs D.low k j = false) : backL D after (m + 1) q k = backL D after m (q - 2) k := by
  rw [backL, if_neg h, if_neg h1, hj, Int.toNat_natCast, if_neg (by rw [h2]; simp)]
def chainL (D : DagD) (after r : Int) : List Int := anchS D r :: backL D after r.toNat r (findS D.certs (anchS D r)).toNat
theorem backL_len (D : DagD) (after : Int) : ∀ (m : Nat) (q : Int) (k : Nat), (backL D after m q k).length ≤ m
  | 0, _, _ => by simp [backL]
  | m + 1, q, k => by
    unfold backL
    split
    · simp
    · split
      · exact Nat.le_succ_of_le (backL_len D after m _ _)
      · split
        · simp; exact backL_len D after m _ _
        · exact Nat.le_succ_of_le (backL_len D after m _ _)
theorem anch_at {D : DagD} (h : DagOk D) {r : Int} (hz : ¬ anchS D r = 0) : ∃ j, j < D.certs.length ∧ findS D.certs (anchS D r) = (j : Int) ∧ anchS D r = (cth D.certs j).di ∧ (cth D.certs j).h.ro = r := by
  rcases atS_cases D.certs r (leadS D.nodes r) with ⟨ea, _⟩ | ⟨i, hi, ea, hra, _⟩
  · exact absurd (anch_none ea) hz
  · rw [anch_some ea]
    exact ⟨i, hi, h.dist.find hi, rfl, hra.1⟩
theorem dag_GetAt (A : Option Addr) (n c : Nat) (l : List CertD) (nodes low x y : Int) (w : World) (hl : CertsR w A n l) (hy : findS l x = y) :
    Calls Try.prog 57 #[.agg #[.int .i64 nodes, .int .i64 low, .slice A n c], .int .i64 x] w fun e w' => e = .returned (.int .i64 y) ∧ Below w.heap.size w w' := hy ▸ dag_Get A n c l nodes low x w hl
theorem OwnI.made {w : World} {B : Nat} (x : Int) (hB : B ≤ w.heap.size) : OwnI (w.alloc (.cells #[.int .i64 x] 3)) B (.slice (some ⟨w.heap.size, 0, none⟩) 1 1) [x] :=
  ⟨rfl, .inr ⟨w.heap.size, 1, _, rfl, hB, heap_alloc_new w _, Nat.le_refl _, by decide, rfl, rfl⟩⟩
/-- Places fall: so a chain is no longer than the list. -/
structure BackF (b off n c : Nat) (D : DagD) (after r : Int) (w : World) (m : Nat) (q : Int) (k : Nat) (acc : List Int) (v : Value) (w' : World) : Prop where
  hq : q ≤ m
  even : q % 2 = 0
  hq2 : q ≤ r
  pos : 0 < q
  kn : k < n
  hacc : acc.length + k ≤ n
  ro : q ≤ (cth D.certs k).h.ro
  full : acc ++ backL D after m q k = chainL D after r
  bel : Below w.heap.size w w'
  box : BoxR w' w.heap.size [.int .i64 D.nodes, .int .i64 D.low, .slice (some ⟨b, off, none⟩) n c]
  own : OwnI w' (w.heap.size + 1) v acc
def BackJ (b off n c : Nat) (D : DagD) (after r : Int) (w : World) (a' : Act) (w' : World) : Prop :=
  ∃ (m : Nat) (q : Int) (k : Nat) (acc : List Int) (v : Value) (u4 u5 u6 u9 u10 u11 u12 u13 u14 u15 u16 u17 u18 u19 u20 u21 u22 u23 u24 u25 u26 u27 u28 u29 u30 u31 u32 u33 u34 u35 u36 u37 u38 u39 u40 u41 u42 u43 u44 u45 u46 u47 u48 u49 u50 : Value), a' = { tmps := #[.agg #[.int .i64 D.nodes, .int .i64 D.low, .slice (some ⟨b, off, none⟩) n c], .int .i64 after, .int .i64 q, .pointer (some ⟨w.heap.size, 0, none⟩), u4, u5, u6, v, .int .i64 (k : Int), u9, u10, u11, u12, u13, u14, u15, u16, u17, u18, u19, u20, u21, u22, u23, u24, u25, u26, u27, u28, u29, u30, u31, u32, u33, u34, u35, u36, u37, u38, u39, u40, u41, u42, u43, u44, u45, u46, u47, u48, u49, u50], defers := [] } ∧ BackF b off n c D after r w m q k acc v w'
theorem BackJ.mk {b off n c : Nat} {D : DagD} {after r : Int} {w : World} {ix q : Int} {m k : Nat} {acc : List Int} {v : Value} {u4 u5 u6 u9 u10 u11 u12 u13 u14 u15 u16 u17 u18 u19 u20 u21 u22 u23 u24 u25 u26 u27 u28 u29 u30 u31 u32 u33 u34 u35 u36 u37 u38 u39 u40 u41 u42 u43 u44 u45 u46 u47 u48 u49 u50 : Value} {w' : World}
    (h : BackF b off n c D after r w m q k acc v w') (hix : ix = (k : Int)) : BackJ b off n c D after r w { tmps := #[.agg #[.int .i64 D.nodes, .int .i64 D.low, .slice (some ⟨b, off, none⟩) n c], .int .i64 after, .int .i64 q, .pointer (some ⟨w.heap.size, 0, none⟩), u4, u5, u6, v, .int .i64 ix, u9, u10, u11, u12, u13, u14, u15, u16, u17, u18, u19, u20, u21, u22, u23, u24, u25, u26, u27, u28, u29, u30, u31, u32, u33, u34, u35, u36, u37, u38, u39, u40, u41, u42, u43, u44, u45, u46, u47, u48, u49, u50], defers := [] } w' :=
  hix ▸ ⟨m, q, k, acc, v, _, _, _, _, _, _, _, _, _, _, _, _, _, _, _, _, _, _, _, _, _, _, _, _, _, _, _, _, _, _, _, _, _, _, _, _, _, _, _, _, _, _, _, _, _, rfl, h⟩
def BackE (D : DagD) (after r : Int) (w : World) (a' : Act) (w' : World) : Prop :=
  ∃ (v : Value) (u0 u1 u2 u3 u4 u5 u6 u8 u9 u10 u11 u12 u13 u14 u15 u16 u17 u18 u19 u20 u21 u22 u23 u24 u25 u26 u27 u28 u29 u30 u31 u32 u33 u34 u35 u36 u37 u38 u39 u40 u41 u42 u43 u44 u45 u46 u47 u48 u49 u50 : Value), a' = { tmps := #[u0, u1, u2, u3, u4, u5, u6, v, u8, u9, u10, u11, u12, u13, u14, u15, u16, u17, u18, u19, u20, u21, u22, u23, u24, u25, u26, u27, u28, u29, u30, u31, u32, u33, u34, u35, u36, u37, u38, u39, u40, u41, u42, u43, u44, u45, u46, u47, u48, u49, u50], defers := [] } ∧ OwnI w' (w.heap.size + 1) v (chainL D after r) ∧ Below w.heap.size w w' ∧ w.heap.size < w'.heap.size ∧ (chainL D after r).length ≤ 65536
theorem BackE.mk {D : DagD} {after r : Int} {w : World} {v : Value} {u0 u1 u2 u3 u4 u5 u6 u8 u9 u10 u11 u12 u13 u14 u15 u16 u17 u18 u19 u20 u21 u22 u23 u24 u25 u26 u27 u28 u29 u30 u31 u32 u33 u34 u35 u36 u37 u38 u39 u40 u41 u42 u43 u44 u45 u46 u47 u48 u49 u50 : Value} {w' : World}
    (h : OwnI w' (w.heap.size + 1) v (chainL D after r)) (hb : Below w.heap.size w w') (hs : w.heap.size < w'.heap.size) (hlen : (chainL D after r).length ≤ 65536) : BackE D after r w { tmps := #[u0, u1, u2, u3, u4, u5, u6, v, u8, u9, u10, u11, u12, u13, u14, u15, u16, u17, u18, u19, u20, u21, u22, u23, u24, u25, u26, u27, u28, u29, u30, u31, u32, u33, u34, u35, u36, u37, u38, u39, u40, u41, u42, u43, u44, u45, u46, u47, u48, u49, u50], defers := [] } w' :=
  ⟨v, _, _, _, _, _, _, _, _, _, _, _, _, _, _, _, _, _, _, _, _, _, _, _, _, _, _, _, _, _, _, _, _, _, _, _, _, _, _, _, _, _, _, _, _, _, _, _, _, _, _, rfl, h, hb, hs, hlen⟩
theorem reaches_down {D : DagD} (h : DagOk D) {k j : Nat} (hk : k < D.certs.length) (hj : j < D.certs.length) (hr : reachesS D.certs D.low k j = true) (hne : (cth D.certs j).h.ro < (cth D.certs k).h.ro) : j < k := by
  rw [reach_eq h hk hj] at hr
  rcases Nat.lt_trichotomy j k with h1 | h1 | h1
  · exact h1
  · subst h1; omega
  · rw [marksS_gt h hk h1] at hr; cases hr
set_option maxRecDepth 100000 in
set_option maxHeartbeats 2000000 in
theorem anchor_Back (b off n c : Nat) (D : DagD) (after r : Int) (w : World) (hl : CertsR w (some ⟨b, off, none⟩) n D.certs) (hok : DagOk D) (h0 : 0 ≤ after) (hr : evenS r = true) (hz : ¬ anchS D r = 0) :
    Calls Try.prog 71 #[.agg #[.int .i64 D.nodes, .int .i64 D.low, .slice (some ⟨b, off, none⟩) n c], .int .i64 after, .int .i64 r] w fun e w' => ∃ v, e = .returned v ∧ OwnI w' w.heap.size v (chainL D after r).reverse ∧ Below w.heap.size w w' ∧ (chainL D after r).length ≤ 65536 := by
  have HL := Lib.hid hl
  have HN := Lib.hid hl.1
  obtain ⟨r1, r2, r3⟩ := evenS_iff.1 hr
  have hi := isS_iff.1 hok.1
  have f5 := hi.1
  have f6 := hi.2.1
  have hn : n ≤ 65536 := by have := hok.2.2.2.1; rw [HN.out] at this; exact this
  have hlo0 : 0 ≤ D.low := hok.2.1
  have hlo1 : -9223372036854775808 ≤ D.low := by omega
  have hlo2 : D.low ≤ 1099511627776 := hok.2.2.1
  obtain ⟨i0, hi0, ei0, ed0, er0⟩ := anch_at hok hz
  have hin0 : i0 < n := by rw [← HN.out]; exact hi0
  have HOK := Lib.hid hok
  have HP := Lib.hid hok.places
  have HZ := Lib.hid hz
  have HE0 := Lib.hid ei0
  have HR0 := Lib.hid er0
  clear hl hok hr hi hz ei0 ed0 er0 hi0
  obtain ⟨a0, ha0⟩ : ∃ a0, a0 = anchS D r := ⟨_, rfl⟩
  go_enter Try.func71, Try.ntmps71
  go_wp2_with fail
  refine wp_scope_two 1 0 (BackE D after r w) (BackJ b off n c D after r w) (fun a' _ => (intOf (a'.tmps.getD 2 undef)).toNat) rfl rfl ?_ ?_ ?_
  · intro hpass
    go_wp2_with fail
    refine (anchor_Of _ n c D r _ (HL.out.up (by (repeat (first | (with_reducible exact Below.refl _ _) | (with_reducible assumption) | (with_reducible apply bel_alloc) | (with_reducible apply bel_drew) | (with_reducible apply bel_drewN) | (with_reducible refine bel_trans ?_ (by with_reducible assumption)) | (with_reducible refine bel_trans ?_ (HF.out _)) | (with_reducible refine bel_set ?_ (by simp) _) | (with_reducible refine bel_set ?_ (by simp; omega) _) | (with_reducible refine bel_set ?_ (by omega) _))))) HP.out (by omega) f5 f6 r1 r2).mono ?_
    rintro e w1 ⟨rfl, hb1⟩
    rw [← ha0]
    have HA0 := Lib.hid ha0
    clear ha0
    have hB1 := (BoxR.new w [.int .i64 D.nodes, .int .i64 D.low, .slice (some ⟨b, off, none⟩) n c] 24).up hb1
    have hbw1 : Below w.heap.size w w1 := by (repeat (first | (with_reducible exact Below.refl _ _) | (with_reducible assumption) | (with_reducible apply bel_alloc) | (with_reducible apply bel_drew) | (with_reducible apply bel_drewN) | (with_reducible refine bel_trans ?_ (by with_reducible assumption)) | (with_reducible refine bel_trans ?_ (HF.out _)) | (with_reducible refine bel_set ?_ (by simp) _) | (with_reducible refine bel_set ?_ (by simp; omega) _) | (with_reducible refine bel_set ?_ (by omega) _)))
    have hlt1 : w.heap.size < w1.heap.size := hB1.1
    have hown1 := OwnI.made (w := w1) (B := w.heap.size + 1) a0 hlt1
    have b_0 := (hB1).2 0 _ rfl; have b_1 := (hB1).2 1 _ rfl; have b_2 := (hB1).2 2 _ rfl
    go_wp2_with fail
    refine wp_region_fam (by kernel_rfl) (by kernel_rfl) (fun ι F hne hF hcl => ?_)
    have hcF0 := fun n o => (bcell (hF n)).1 (w.heap.size) o (by first | (simp; done) | (simp; omega) | omega)
    have hcF1 := fun n o => (bcell (hF n)).1 (w1.heap.size) o (by first | (simp; done) | (simp; omega) | omega)
    have HF := Lib.hid hF; clear hF
    have HC := Lib.hid hcl; clear hcl
    repeat (any_goals (first
     | go_big_quiet_step (first | (go_at_call 57; exact Calls.fam HC.out (dag_GetAt _ _ _ D.certs _ _ _ (i0 : Int) _ (HL.out.up (by (repeat (first | (with_reducible exact Below.refl _ _) | (with_reducible assumption) | (with_reducible apply bel_alloc) | (with_reducible apply bel_drew) | (with_reducible apply bel_drewN) | (with_reducible refine bel_trans ?_ (by with_reducible assumption)) | (with_reducible refine bel_trans ?_ (HF.out _)) | (with_reducible refine bel_set ?_ (by simp) _) | (with_reducible refine bel_set ?_ (by simp; omega) _) | (with_reducible refine bel_set ?_ (by omega) _))))) (by rw [HA0.out]; exact HE0.out))))
     | (refine wpQuiet_guard _ _ _ rfl rfl ?_; (fail_if_success (intro b' hb; have h2 := hb.symm; have : b' = true := h2.trans (by with_reducible rfl))); (fail_if_success (intro b' hb; have h2 := hb.symm; have : b' = false := h2.trans (by with_reducible rfl))); intro b' hb; simp only [hb]; cases b' <;> (try simp only [Bool.not_eq_true', Bool.not_eq_false', decide_eq_true_eq, decide_eq_false_iff_not, Int.not_lt, Int.not_le, Bool.and_eq_true, Bool.or_eq_true, Bool.or_eq_false_iff, beq_iff_eq, beq_eq_false_iff_ne, Int.natCast_pos] at hb))))
    all_goals (refine wpQuiet_nil ?_; intro nq)
    have hFw2 := HF.out nq
    clear HF HC hne
    generalize F nq = w2 at *
    have hB2 := (hB1.up (w' := w1.alloc (.cells #[.int .i64 a0] 3)) (by (repeat (first | (with_reducible exact Below.refl _ _) | (with_reducible assumption) | (with_reducible apply bel_alloc) | (with_reducible apply bel_drew) | (with_reducible apply bel_drewN) | (with_reducible refine bel_trans ?_ (by with_reducible assumption)) | (with_reducible refine bel_trans ?_ (HF.out _)) | (with_reducible refine bel_set ?_ (by simp) _) | (with_reducible refine bel_set ?_ (by simp; omega) _) | (with_reducible refine bel_set ?_ (by omega) _))))).up hFw2
    have hown2 := hown1.up hFw2
    have hbw2 : Below w.heap.size w w2 := bel_trans (bel_alloc hbw1) hFw2
    clear hB1 hown1 hcF0 hcF1 b_0 b_1 b_2
    go_wp2_with fail
    rename_i K hK
    apply wp_label
    apply hK
    exact hpass _ _ (BackJ.mk (m := r.toNat) (q := r) (k := i0) (acc := [a0]) { hq := by omega, even := r3, hq2 := Int.le_refl _, pos := by omega, kn := hin0, hacc := by simp; omega, ro := by rw [HR0.out]; exact Int.le_refl _, full := by unfold chainL; rw [HE0.out, HA0.out]; rfl, bel := hbw2, box := hB2, own := hown2 } rfl)
  · rintro a' w' ⟨m, q, k, acc, v, u4, u5, u6, u9, u10, u11, u12, u13, u14, u15, u16, u17, u18, u19, u20, u21, u22, u23, u24, u25, u26, u27, u28, u29, u30, u31, u32, u33, u34, u35, u36, u37, u38, u39, u40, u41, u42, u43, u44, u45, u46, u47, u48, u49, u50, rfl, hF⟩
    have bx_0 := (hF.box).2 0 _ rfl; have bx_1 := (hF.box).2 1 _ rfl; have bx_2 := (hF.box).2 2 _ rfl
    have g1 := hF.hq
    have g2 := hF.even
    have g3 := hF.hq2
    have g4 := hF.pos
    have g5 := hF.kn
    have g6 := hF.hacc
    have hlt0 := hF.box.1
    by_cases he1 : q - 2 ≤ after
    · go_wp2_with fail
      apply wp_goto
      have hful : acc = chainL D after r := by have := hF.full; rw [backL_end (.inl he1), List.append_nil] at this; exact this
      exact .inl ⟨rfl, BackE.mk (hful ▸ hF.own) hF.bel hlt0 (by rw [← hful]; omega)⟩
    · by_cases he2 : q - 2 ≤ D.low
      · go_wp2_with fail
        apply wp_goto
        have hful : acc = chainL D after r := by have := hF.full; rw [backL_end (.inr he2), List.append_nil] at this; exact this
        exact .inl ⟨rfl, BackE.mk (hful ▸ hF.own) hF.bel hlt0 (by rw [← hful]; omega)⟩
      · obtain ⟨m', hm'⟩ : ∃ m', m = m' + 1 := ⟨m - 1, by omega⟩
        subst hm'
        have hnend : ¬ (q - 2 ≤ after ∨ q - 2 ≤ D.low) := by omega
        have q2 : 2 ≤ q - 2 := by omega
        have q3 : q - 2 ≤ 1099511627776 := by omega
        have HNE := Lib.hid hnend
        clear hnend
        by_cases hz : anchS D (q - 2) = 0
        · have HZ2 := Lib.hid hz
          clear hz
          go_wp2_with (go_at_call 70; refine (anchor_Of _ n c D (q - 2) _ (HL.out.up hF.bel) HP.out (by omega) f5 f6 q2 q3).mono ?_; rintro e w3 ⟨rfl, hb3⟩; rw [HZ2.out])
          apply wp_goto
          refine .inr ⟨rfl, BackJ.mk (m := m') (q := q - 2) (k := k) (acc := acc) { hq := by omega, even := by omega, hq2 := by omega, pos := by omega, kn := g5, hacc := g6, ro := by have := hF.ro; omega, full := ?full, bel := bel_trans hF.bel hb3, box := hF.box.up hb3, own := hF.own.up hb3 } rfl, ?meas⟩
          case full => have := hF.full; rw [backL_zero HNE.out HZ2.out] at this; exact this
          case meas => simp [intOf]; omega
        · obtain ⟨j, hj, ej, edj, erj⟩ := anch_at HOK.out hz
          have hjn : j < n := by rw [← HN.out]; exact hj
          obtain ⟨an, han⟩ : ∃ an, an = anchS D (q - 2) := ⟨_, rfl⟩
          have hzb : (an == 0) = false := by rw [han]; simpa using hz
          have hro := mayS_ro (mayS_iff.2 HOK.out) hj
          have hro1 : 1 ≤ (cth D.certs j).h.ro := hro.1
          have hro2 : (cth D.certs j).h.ro ≤ 1099511627776 := hro.2
          have HAN := Lib.hid han
          have EJ := Lib.hid ej
          have ERJ := Lib.hid erj
          have HZ2 := Lib.hid hz
          have HJ := Lib.hid hj
          clear han hz ej edj erj hro hj
          cases hre : reachesS D.certs D.low k j
          · have HRE := Lib.hid hre
            clear hre
            go_wp2_with (first
              | (go_at_call 70; refine (anchor_Of _ n c D (q - 2) _ (HL.out.up hF.bel) HP.out (by omega) f5 f6 q2 q3).mono ?_; rintro e w3 ⟨rfl, hb3⟩; rw [← HAN.out]; have hB3 := hF.box.up hb3; have by_0 := (hB3).2 0 _ rfl; have by_1 := (hB3).2 1 _ rfl; have by_2 := (hB3).2 2 _ rfl)
              | (go_at_call 57; refine (dag_GetAt _ _ _ D.certs _ _ _ (j : Int) _ (HL.out.up (bel_trans hF.bel hb3)) (by rw [HAN.out]; exact EJ.out)).mono ?_; rintro e w4 ⟨rfl, hb4⟩; have hB4 := hB3.up hb4; have bz_0 := (hB4).2 0 _ rfl; have bz_1 := (hB4).2 1 _ rfl; have bz_2 := (hB4).2 2 _ rfl)
              | (go_at_call 58; refine (path_Reaches b off n c D.certs _ _ k j _ (HL.out.up (bel_trans (bel_trans hF.bel hb3) hb4)) g5 hjn hn hlo1 hlo2 hro1 hro2).mono ?_; rintro e w5 ⟨rfl, hb5⟩; rw [HRE.out]))
            apply wp_goto
            have hb35 : Below w'.heap.size w' w5 := bel_trans (bel_trans hb3 hb4) hb5
            refine .inr ⟨rfl, BackJ.mk (m := m') (q := q - 2) (k := k) (acc := acc) { hq := by omega, even := by omega, hq2 := by omega, pos := by omega, kn := g5, hacc := g6, ro := by have := hF.ro; omega, full := ?full, bel := bel_trans hF.bel hb35, box := hF.box.up hb35, own := hF.own.up hb35 } rfl, ?meas⟩
            case full => have := hF.full; rw [backL_no HNE.out HZ2.out EJ.out HRE.out] at this; exact this
            case meas => simp [intOf]; omega
          · have hjk := reaches_down HOK.out (by rw [HN.out]; exact g5) HJ.out hre (by have := hF.ro; have := ERJ.out; omega)
            have HRE := Lib.hid hre
            clear hre
            go_wp2_with (first
              | (go_at_call 70; refine (anchor_Of _ n c D (q - 2) _ (HL.out.up hF.bel) HP.out (by omega) f5 f6 q2 q3).mono ?_; rintro e w3 ⟨rfl, hb3⟩; rw [← HAN.out]; have hB3 := hF.box.up hb3; have by_0 := (hB3).2 0 _ rfl; have by_1 := (hB3).2 1 _ rfl; have by_2 := (hB3).2 2 _ rfl)
              | (go_at_call 57; refine (dag_GetAt _ _ _ D.certs _ _ _ (j : Int) _ (HL.out.up (bel_trans hF.bel hb3)) (by rw [HAN.out]; exact EJ.out)).mono ?_; rintro e w4 ⟨rfl, hb4⟩; have hB4 := hB3.up hb4; have bz_0 := (hB4).2 0 _ rfl; have bz_1 := (hB4).2 1 _ rfl; have bz_2 := (hB4).2 2 _ rfl)
              | (go_at_call 58; refine (path_Reaches b off n c D.certs _ _ k j _ (HL.out.up (bel_trans (bel_trans hF.bel hb3) hb4)) g5 hjn hn hlo1 hlo2 hro1 hro2).mono ?_; rintro e w5 ⟨rfl, hb5⟩; rw [HRE.out]; have hb35 : Below w'.heap.size w' w5 := bel_trans (bel_trans hb3 hb4) hb5; have hown5 := hF.own.up hb35; have hsz5 : w.heap.size + 1 ≤ w5.heap.size := Nat.le_trans hlt0 hb35.size)
              | (at_builtin; refine wpList_app1 rfl (.tmp 43) (.tmp 45) rfl (w.heap.size + 1) v acc rfl (hown5.alloc _) _ an rfl (cell0_alloc _ _ _) (by omega) (le_alloc hsz5) ?_; intro v1 w6 hown6 hg6 hbel6 hat6))
            apply wp_goto
            have hbx : Below w'.heap.size w' w5 := hb35
            have hB6 := ((hF.box.up hb35).up (w' := w5.alloc (.cells #[.int .i64 an] 3)) (by (repeat (first | (with_reducible exact Below.refl _ _) | (with_reducible assumption) | (with_reducible apply bel_alloc) | (with_reducible apply bel_drew) | (with_reducible apply bel_drewN) | (with_reducible refine bel_trans ?_ (by with_reducible assumption)) | (with_reducible refine bel_trans ?_ (HF.out _)) | (with_reducible refine bel_set ?_ (by simp) _) | (with_reducible refine bel_set ?_ (by simp; omega) _) | (with_reducible refine bel_set ?_ (by omega) _))))).below hbel6 (Nat.lt_succ_self _)
            refine .inr ⟨rfl, BackJ.mk (m := m') (q := q - 2) (k := j) (acc := acc ++ [an]) { hq := by omega, even := by omega, hq2 := by omega, pos := by omega, kn := hjn, hacc := by simp; omega, ro := by rw [ERJ.out]; exact Int.le_refl _, full := ?full, bel := (bel_alloc (bel_trans hF.bel hb35)).trans (hbel6.mono (by omega)), box := hB6, own := hown6 } rfl, ?meas⟩
            case full => have := hF.full; rw [backL_yes HNE.out HZ2.out EJ.out HRE.out] at this; rw [HAN.out]; simpa using this
            case meas => simp [intOf]; omega
  · rintro a' w' ⟨v, u0, u1, u2, u3, u4, u5, u6, u8, u9, u10, u11, u12, u13, u14, u15, u16, u17, u18, u19, u20, u21, u22, u23, u24, u25, u26, u27, u28, u29, u30, u31, u32, u33, u34, u35, u36, u37, u38, u39, u40, u41, u42, u43, u44, u45, u46, u47, u48, u49, u50, rfl, hown, hbw, hsz, hlen⟩
    go_wp2_with (go_at_call 86; refine (slices_Reverse _ _ (w.heap.size + 1) _ hown hlen).mono ?_; rintro e w6 ⟨rfl, hown6, hb6⟩)
    simp only [Exit.noGoto]
    go_ret
    exact ⟨_, rfl, hown6.mono (by omega), hbw.trans (hb6.mono (by omega)), hlen⟩
end Go.Proofs.Ythpljlffjbodpaa
