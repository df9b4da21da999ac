/- The reference's Chain; what is heavy, of layer 16. -/
import Derived.Test.YthpljlffjbodpaaLr
import Derived.Test.YthpljlffjbodpaaOc
import Derived.Test.YthpljlffjbodpaaPa
namespace Go.Proofs.Ythpljlffjbodpaa
open Go.RowKit
set_option linter.unusedSimpArgs false
set_option linter.unusedVariables false

set_option maxRecDepth 100000 in
set_option maxHeartbeats 1000000 in
theorem law16_heavy' (v0 v1 : Value) (A : Option Addr) (n c : Nat) (certs : List CertD) (iA : Option Addr) (im ic : Nat) (lA : Option Addr) (lm lc : Nat) (w : World) (hl : CertsR w A n certs) (hs : Small certs) :
    Calls Try.prog 37 #[.agg #[v0, v1, .slice A n c, .slice iA im ic, .slice lA lm lc]] w fun e w' => RetQ (Light certs ∧ im ≤ 30 ∧ lm ≤ 30) e ∧ Below w.heap.size w w' := by
  have HL := Lib.hid hl
  have HS := Lib.hid hs
  clear hl hs
  go_enter Try.func37, Try.ntmps37
  go_wp2_with (go_at_call 50; refine (law14_Heavy' _ _ _ _ _ certs _ (HL.out.up (by (repeat (first | (with_reducible exact Below.refl _ _) | (with_reducible assumption) | (with_reducible apply bel_alloc) | (with_reducible apply bel_drew) | (with_reducible apply bel_drewN) | (with_reducible refine bel_trans ?_ (by with_reducible assumption)) | (with_reducible refine bel_trans ?_ (HF.out _)) | (with_reducible refine bel_set ?_ (by simp) _) | (with_reducible refine bel_set ?_ (by simp; omega) _) | (with_reducible refine bel_set ?_ (by omega) _))))) HS.out).mono ?_; rintro e w1 ⟨⟨y, rfl, hy⟩, hb1⟩; have HY := Lib.hid hy; clear hy; have hz_w1 : w.heap.size + 1 ≤ w1.heap.size := (by have hq := (hb1).size; (try simp at hq); omega); have hc0_w1 := fun o => (bcell hb1).1 (w.heap.size) o (by first | (simp; done) | (simp; omega) | omega))
  all_goals
    go_ret
    refine ⟨RetQ.mk _ (fun h => ?_), by (repeat (first | (with_reducible exact Below.refl _ _) | (with_reducible assumption) | (with_reducible apply bel_alloc) | (with_reducible apply bel_drew) | (with_reducible apply bel_drewN) | (with_reducible refine bel_trans ?_ (by with_reducible assumption)) | (with_reducible refine bel_trans ?_ (HF.out _)) | (with_reducible refine bel_set ?_ (by simp) _) | (with_reducible refine bel_set ?_ (by simp; omega) _) | (with_reducible refine bel_set ?_ (by omega) _)))⟩
    first
      | (exfalso; revert h; simp; done)
      | (refine ⟨HY.out (by go_light; simp_all), by go_light; simp at h; omega, by go_light; simp at h; omega⟩)
/-- append of a row to a row of one's own. -/
theorem wpList_appN {w : World} {ops : Array Oper} {rest : List Oper} {o : Oper} {a : Act} {Q : Exit → Act → World → Prop} (hgd : o.guard = none) (s x : Operand)
    (ho : o.op = .call { callee := .builtin .append, args := #[s, x], argTypes := #[25, 25] })
    (B : Nat) (v : Value) (l : List Int) (hs : a.eval s = v) (hown : OwnI w B v l) (g off m c : Nat) (l2 : List Int) (hx : a.eval x = .slice (some ⟨g, off, none⟩) m c) (hm : l2.length = m) (hc : ∀ j, j < m → w.cell? ⟨g, off + j, none⟩ = some (.int .i64 (nth l2 j)))
    (hlen : l.length + m ≤ 1000000000) (hB : B ≤ w.heap.size)
    (h : ∀ v' w', OwnI w' B v' (l ++ l2) → w.grownBy w' v.ownBlock → Below B w w' → (v'.ownBlock = v.ownBlock ∨ v'.ownBlock = some w.heap.size) → wpList Try.prog ops Q rest (a.put o.dst v') w') : wpList Try.prog ops Q (o :: rest) a w := by
  obtain ⟨i0, hi, hz, hz1, hz2⟩ := info_parts int_info
  refine wpList_plain hgd fun K hK => ?_
  obtain ⟨v', w', hrun, h2, h3, _, h5⟩ := run_append_own_at (P := Try.prog) w B 25 o.type 3 i0 (.int .i64 0) 1 8 Try.underlying25 hi hz hz1 hz2 rfl (by omega) v l.length (l.map (Value.int .i64)) hown ⟨g, off, none⟩ m c (l2.map (Value.int .i64)) (by simp [hm])
    (by intro j u hu
        simp only [List.getElem?_map, Option.map_eq_some_iff] at hu
        obtain ⟨y, hy, rfl⟩ := hu
        obtain ⟨hj, hy2⟩ := List.getElem?_eq_some_iff.1 hy
        have := hc j (by omega)
        rw [show nth l2 j = y by simp [nth, hy]] at this
        simpa [Addr.add_lit] using this) (by intro u hu; simp only [List.mem_map] at hu; obtain ⟨y, _, rfl⟩ := hu; rfl) (by simp only [maxLen]; omega) (by omega) hB
  have hown' : OwnI w' B v' (l ++ l2) := by unfold OwnI; simpa [hm] using h2
  have hbel : Below B w w' := ⟨h3.os, h3.tape, h3.output, h3.size, fun k hk => h3.block k (by omega) (fun e => by have := (hown.lt k e.symm).1; omega)⟩
  unfold Oper.wp execOp
  simp only [ho, resolve, invoke, builtin, Sem.run_bind, Sem.run_pure, Result.andThen_ok, List.map_toArray, List.map_cons, List.map_nil, hs, hx, hrun]
  exact hK _ _ (h v' w' hown' h3 hbel h5)
theorem backL_low {D : DagD} (h : DagOk D) {after : Int} : ∀ (m : Nat) (q : Int) (k : Nat), (∀ i, i < D.certs.length → q - 2 < (cth D.certs i).h.ro) → backL D after m q k = []
  | 0, _, _, _ => rfl
  | m + 1, q, k, hq => by
    by_cases he : q - 2 ≤ after ∨ q - 2 ≤ D.low
    · exact backL_end he
    · have hz : anchS D (q - 2) = 0 := Classical.byContradiction fun hz => by
        obtain ⟨j, hj, _, _, hr⟩ := anch_at h hz
        have := hq j hj
        omega
      rw [backL_zero he hz]
      exact backL_low h m (q - 2) k (fun i hi => by have := hq i hi; omega)
structure RefF (n : Nat) (D : DagD) (after r : Int) (B : Nat) (m : Nat) (q : Int) (k : Nat) (acc : List Int) (last : Int) (v : Value) (w' : World) : Prop where
  hq : q ≤ m
  even : q % 2 = 0
  hq2 : q ≤ r
  pos : 0 < q
  kn : k < n
  hacc : acc.length + k ≤ n
  ro : q ≤ (cth D.certs k).h.ro
  full : acc ++ backL D after m q k = chainL D after r
  own : OwnI w' B v acc.reverse
  ne : acc ≠ []
  at' : findS D.certs last = (k : Int)
set_option maxRecDepth 100000 in
set_option maxHeartbeats 4000000 in
theorem ref14_Chain (b off n c : Nat) (D : DagD) (after r : Int) (w : World) (hl : CertsR w (some ⟨b, off, none⟩) n D.certs) (hok : DagOk D) (h0 : 0 ≤ after) (har : after < r) (hr : evenS r = true) (hz : ¬ anchS D r = 0) :
    Calls Try.prog 47 #[.agg #[.int .i64 D.nodes, .int .i64 D.low, .slice (some ⟨b, off, none⟩) n c], .int .i64 after, .int .i64 r] w fun e w' => ∃ v, e = .returned v ∧ OwnI w' w.heap.size v (chainL D after r).reverse ∧ Below w.heap.size w w' := by
  have HL := Lib.hid hl
  have HN := Lib.hid hl.1
  obtain ⟨r1, r2, r3⟩ := evenS_iff.1 hr
  have hi := isS_iff.1 hok.1
  have f5 := hi.1
  have f6 := hi.2.1
  have hn : n ≤ 65536 := by have := hok.2.2.2.1; rw [HN.out] at this; exact this
  have hlo0 : 0 ≤ D.low := hok.2.1
  have hlo1 : -9223372036854775808 ≤ D.low := by omega
  have hlo2 : D.low ≤ 1099511627776 := hok.2.2.1
  obtain ⟨i0, hi0, ei0, ed0, er0⟩ := anch_at hok hz
  have hin0 : i0 < n := by rw [← HN.out]; exact hi0
  have hn0 : 0 < n := by omega
  have hlowr := hok.ro (k := 0) (by rw [HN.out]; exact hn0)
  have hro0 := (mayS_ro (mayS_iff.2 hok) (k := 0) (by rw [HN.out]; exact hn0))
  have hlr1 : 1 ≤ (cth D.certs 0).h.ro := hro0.1
  have hlr2 : (cth D.certs 0).h.ro ≤ 1099511627776 := hro0.2
  have hsort : ∀ i, i < D.certs.length → (cth D.certs 0).h.ro ≤ (cth D.certs i).h.ro := fun i hi => by
    exact hok.mono 0 i (Nat.zero_le _) hi
  have HOK := Lib.hid hok
  have HE0 := Lib.hid ei0
  have HR0 := Lib.hid er0
  have HSO := Lib.hid hsort
  clear hl hok hr hi hz ei0 ed0 er0 hi0 hro0 hsort
  obtain ⟨a0, ha0⟩ : ∃ a0, a0 = anchS D r := ⟨_, rfl⟩
  obtain ⟨lw, hlw⟩ : ∃ lw, lw = (cth D.certs 0).h.ro := ⟨_, rfl⟩
  rw [← hlw] at hlowr hlr1 hlr2
  go_enter Try.func47, Try.ntmps47
  go_wp2_with fail
  refine (ref14_Anchor _ n c D r _ (HL.out.up (by (repeat (first | (with_reducible exact Below.refl _ _) | (with_reducible assumption) | (with_reducible apply bel_alloc) | (with_reducible apply bel_drew) | (with_reducible apply bel_drewN) | (with_reducible refine bel_trans ?_ (by with_reducible assumption)) | (with_reducible refine bel_trans ?_ (HF.out _)) | (with_reducible refine bel_set ?_ (by simp) _) | (with_reducible refine bel_set ?_ (by simp; omega) _) | (with_reducible refine bel_set ?_ (by omega) _))))) f5 f6 r1 r2).mono ?_
  rintro e w1 ⟨rfl, hb1⟩
  rw [← ha0]
  have HA0 := Lib.hid ha0
  clear ha0
  have hB1 := (BoxR.new w [.int .i64 D.nodes, .int .i64 D.low, .slice (some ⟨b, off, none⟩) n c] 24).up hb1
  have hbw1 : Below w.heap.size w w1 := by (repeat (first | (with_reducible exact Below.refl _ _) | (with_reducible assumption) | (with_reducible apply bel_alloc) | (with_reducible apply bel_drew) | (with_reducible apply bel_drewN) | (with_reducible refine bel_trans ?_ (by with_reducible assumption)) | (with_reducible refine bel_trans ?_ (HF.out _)) | (with_reducible refine bel_set ?_ (by simp) _) | (with_reducible refine bel_set ?_ (by simp; omega) _) | (with_reducible refine bel_set ?_ (by omega) _)))
  have hlt1 : w.heap.size < w1.heap.size := hB1.1
  have hown1 := OwnI.made (w := w1) (B := w.heap.size + 1) a0 hlt1
  have b_0 := (hB1).2 0 _ rfl; have b_1 := (hB1).2 1 _ rfl; have b_2 := (hB1).2 2 _ rfl
  obtain ⟨b2, off2, e2, hb, hcc⟩ := HL.out.2.2 hn0
  injection e2 with e2; injection e2 with e2 e3
  subst e2; subst e3
  obtain ⟨p, hat, hcr⟩ := hcc 0 hn0
  obtain ⟨c0, c1, c2, c3, c4, c5⟩ := hat.up hbw1 hb
  rw [← hlw] at c1
  clear hcc hat hcr c0 c2 c3 c4 c5
  have HLW := Lib.hid hlw
  clear hlw
  have hB2 := hB1.up (w' := w1.alloc (.cells #[.int .i64 a0] 3)) (by (repeat (first | (with_reducible exact Below.refl _ _) | (with_reducible assumption) | (with_reducible apply bel_alloc) | (with_reducible apply bel_drew) | (with_reducible apply bel_drewN) | (with_reducible refine bel_trans ?_ (by with_reducible assumption)) | (with_reducible refine bel_trans ?_ (HF.out _)) | (with_reducible refine bel_set ?_ (by simp) _) | (with_reducible refine bel_set ?_ (by simp; omega) _) | (with_reducible refine bel_set ?_ (by omega) _))))
  have hbw2 : Below w.heap.size w (w1.alloc (.cells #[.int .i64 a0] 3)) := bel_alloc hbw1
  have hbl1 : b < w1.heap.size := Nat.lt_of_lt_of_le hb hbw1.size
  go_wp2_with fail
  clear b_0 b_1 b_2 c1
  obtain ⟨w3, hw3⟩ : ∃ w3, w3 = w1.alloc (.cells #[.int .i64 a0] 3) := ⟨_, rfl⟩
  rw [← hw3] at hown1 hB2 hbw2 ⊢
  clear hw3
  go_loopw [7, 8, 10] (fun il iv iq wr => ∃ (m : Nat) (q : Int) (k : Nat) (acc : List Int) (last : Int), il = .int .i64 last ∧ iq = .int .i64 (q - 2) ∧ RefF n D after r (w.heap.size + 1) m q k acc last iv wr ∧ BoxR wr w.heap.size [.int .i64 D.nodes, .int .i64 D.low, .slice (some ⟨b, off, none⟩) n c] ∧ Below w.heap.size w wr) (fun _ _ iq _ => (intOf iq).toNat)
  case atStart => exact ⟨r.toNat, r, i0, [a0], a0, rfl, by go_num, { hq := by omega, even := r3, hq2 := Int.le_refl _, pos := by omega, kn := hin0, hacc := by simp; omega, ro := by rw [HR0.out]; exact Int.le_refl _, full := by unfold chainL; rw [HE0.out, HA0.out]; rfl, own := hown1, ne := by simp, at' := by rw [HA0.out]; exact HE0.out }, hB2, hbw2⟩
  case round =>
    clear hB2 hown1 hbw2
    obtain ⟨m, q, k, acc, last, rfl, rfl, hF, hBx, hbx⟩ := hrel
    (obtain ⟨wx, hwx⟩ : ∃ x, x = wr := ⟨_, rfl⟩); subst hwx
    have b_0 := (hBx).2 0 _ rfl; have b_1 := (hBx).2 1 _ rfl; have b_2 := (hBx).2 2 _ rfl
    have g1 := hF.hq
    have g2 := hF.even
    have g3 := hF.hq2
    have g4 := hF.pos
    have g5 := hF.kn
    have g6 := hF.hacc
    have hlt0 := hBx.1
    by_cases he1 : after < q - 2
    · by_cases he2 : lw ≤ q - 2
      · obtain ⟨m', hm'⟩ : ∃ m', m = m' + 1 := ⟨m - 1, by omega⟩
        subst hm'
        have hnend : ¬ (q - 2 ≤ after ∨ q - 2 ≤ D.low) := by omega
        have q2 : 2 ≤ q - 2 := by omega
        have q3 : q - 2 ≤ 1099511627776 := by omega
        have HNE := Lib.hid hnend
        clear hnend
        by_cases hz : anchS D (q - 2) = 0
        · have HZ2 := Lib.hid hz
          clear hz
          go_wp2_with (go_at_call 45; refine (ref14_Anchor _ n c D (q - 2) _ (HL.out.up hbx) f5 f6 q2 q3).mono ?_; rintro e w3 ⟨rfl, hb3⟩; rw [HZ2.out])
          (first | (go_round; (case rel => exact ⟨m', q - 2, k, acc, last, rfl, by go_num, { hq := by omega, even := by omega, hq2 := by omega, pos := by omega, kn := g5, hacc := g6, ro := by have := hF.ro; omega, full := by have := hF.full; rw [backL_zero HNE.out HZ2.out] at this; exact this, own := hF.own.up hb3, ne := hF.ne, at' := hF.at' }, hBx.up hb3, bel_trans hbx hb3⟩); (case measure => (simp [intOf] <;> omega))) | (go_roundw; (case rel => exact ⟨m', q - 2, k, acc, last, rfl, by go_num, { hq := by omega, even := by omega, hq2 := by omega, pos := by omega, kn := g5, hacc := g6, ro := by have := hF.ro; omega, full := by have := hF.full; rw [backL_zero HNE.out HZ2.out] at this; exact this, own := hF.own.up hb3, ne := hF.ne, at' := hF.at' }, hBx.up hb3, bel_trans hbx hb3⟩); (case measure => (simp [intOf] <;> omega))) | (refine ⟨?_, by simp [intOf] <;> omega⟩; (repeat apply Exists.intro); refine ⟨?rel, ?fr⟩; (case fr => ((repeat' apply And.intro) <;> rfl)); (case rel => exact ⟨m', q - 2, k, acc, last, rfl, by go_num, { hq := by omega, even := by omega, hq2 := by omega, pos := by omega, kn := g5, hacc := g6, ro := by have := hF.ro; omega, full := by have := hF.full; rw [backL_zero HNE.out HZ2.out] at this; exact this, own := hF.own.up hb3, ne := hF.ne, at' := hF.at' }, hBx.up hb3, bel_trans hbx hb3⟩)))
        · obtain ⟨j, hj, ej, edj, erj⟩ := anch_at HOK.out hz
          have hjn : j < n := by rw [← HN.out]; exact hj
          obtain ⟨an, han⟩ : ∃ an, an = anchS D (q - 2) := ⟨_, rfl⟩
          have hpos : 0 < an := by rw [han, edj]; have := certS_bd (HOK.out.2.2.2.2 j hj).1; omega
          have hpb : decide (0 < an) = true := by simpa using hpos
          have HFA := Lib.hid (may_facts (mayS_iff.2 HOK.out))
          have hmr := reach_eq HOK.out (i := k) (j := j) (by rw [HN.out]; exact g5) hj
          have HAN := Lib.hid han
          have EJ := Lib.hid ej
          have ERJ := Lib.hid erj
          have HZ2 := Lib.hid hz
          have HJ := Lib.hid hj
          have HMR := Lib.hid hmr
          clear han hz ej edj erj hj hmr
          cases hre : marksS D.certs D.low k j
          · have HRE := Lib.hid hre
            clear hre
            go_wp2_with fail
            refine (ref14_Anchor _ n c D (q - 2) _ (HL.out.up hbx) f5 f6 q2 q3).mono ?_
            rintro e w3 ⟨rfl, hb3⟩
            rw [← HAN.out]
            have hB3 := hBx.up hb3
            have by_0 := (hB3).2 0 _ rfl; have by_1 := (hB3).2 1 _ rfl; have by_2 := (hB3).2 2 _ rfl
            go_wp2_with fail
            refine (ref14_Reach _ _ _ D.certs _ _ last an k j hF.at' (by rw [HAN.out]; exact EJ.out) _ (HL.out.up (bel_trans hbx hb3)) hn (fun k hk => HFA.out.2.2.2 k (by rw [HN.out]; exact hk)) hlo1 hlo2).mono ?_
            rintro e w5 ⟨rfl, hb5⟩
            rw [HRE.out]
            have hb35 : Below wx.heap.size wx w5 := bel_trans hb3 hb5
            go_wp2_with fail
            (first | (go_round; (case rel => exact ⟨m', q - 2, k, acc, last, rfl, by go_num, { hq := by omega, even := by omega, hq2 := by omega, pos := by omega, kn := g5, hacc := g6, ro := by have := hF.ro; omega, full := by have := hF.full; rw [backL_no HNE.out HZ2.out EJ.out (HMR.out.trans HRE.out)] at this; exact this, own := hF.own.up hb35, ne := hF.ne, at' := hF.at' }, hBx.up hb35, bel_trans hbx hb35⟩); (case measure => (simp [intOf] <;> omega))) | (go_roundw; (case rel => exact ⟨m', q - 2, k, acc, last, rfl, by go_num, { hq := by omega, even := by omega, hq2 := by omega, pos := by omega, kn := g5, hacc := g6, ro := by have := hF.ro; omega, full := by have := hF.full; rw [backL_no HNE.out HZ2.out EJ.out (HMR.out.trans HRE.out)] at this; exact this, own := hF.own.up hb35, ne := hF.ne, at' := hF.at' }, hBx.up hb35, bel_trans hbx hb35⟩); (case measure => (simp [intOf] <;> omega))) | (refine ⟨?_, by simp [intOf] <;> omega⟩; (repeat apply Exists.intro); refine ⟨?rel, ?fr⟩; (case fr => ((repeat' apply And.intro) <;> rfl)); (case rel => exact ⟨m', q - 2, k, acc, last, rfl, by go_num, { hq := by omega, even := by omega, hq2 := by omega, pos := by omega, kn := g5, hacc := g6, ro := by have := hF.ro; omega, full := by have := hF.full; rw [backL_no HNE.out HZ2.out EJ.out (HMR.out.trans HRE.out)] at this; exact this, own := hF.own.up hb35, ne := hF.ne, at' := hF.at' }, hBx.up hb35, bel_trans hbx hb35⟩)))
          · have hjk := reaches_down HOK.out (by rw [HN.out]; exact g5) HJ.out (HMR.out.trans hre) (by have := hF.ro; have := ERJ.out; omega)
            have HRE := Lib.hid hre
            clear hre
            rcases hF.own.shape with ⟨_, he⟩ | ⟨g, cap, rfl, hg⟩
            · exact absurd (by simpa using he) hF.ne
            go_wp2_with fail
            refine (ref14_Anchor _ n c D (q - 2) _ (HL.out.up hbx) f5 f6 q2 q3).mono ?_
            rintro e w3 ⟨rfl, hb3⟩
            rw [← HAN.out]
            have hB3 := hBx.up hb3
            have by_0 := (hB3).2 0 _ rfl; have by_1 := (hB3).2 1 _ rfl; have by_2 := (hB3).2 2 _ rfl
            go_wp2_with fail
            refine (ref14_Reach _ _ _ D.certs _ _ last an k j hF.at' (by rw [HAN.out]; exact EJ.out) _ (HL.out.up (bel_trans hbx hb3)) hn (fun k hk => HFA.out.2.2.2 k (by rw [HN.out]; exact hk)) hlo1 hlo2).mono ?_
            rintro e w5 ⟨rfl, hb5⟩
            rw [HRE.out]
            have hb35 : Below wx.heap.size wx w5 := bel_trans hb3 hb5
            have hown5 := hF.own.up hb35
            have hsz5 : w.heap.size + 1 ≤ w5.heap.size := Nat.le_trans hlt0 hb35.size
            have hal : acc.reverse.length ≤ n := by rw [List.length_reverse]; omega
            go_wp2_with (at_builtin; refine wpList_appN rfl (.tmp 51) (.tmp 52) rfl (w.heap.size + 1) (.slice (some ⟨w5.heap.size, 0, none⟩) 1 1) [an] rfl (OwnI.made an hsz5) g 0 acc.length cap acc.reverse rfl (List.length_reverse) (fun j hj => by rw [Nat.zero_add]; exact ((hown5.alloc _).get (by rw [List.length_reverse]; exact hj)).1) (by simp only [List.length_cons, List.length_nil]; omega) (le_alloc hsz5) ?_; intro v1 w6 hown6 hg6 hbel6 hat6)
            have hB6 := ((hBx.up hb35).up (w' := w5.alloc (.cells #[.int .i64 an] 3)) (by (repeat (first | (with_reducible exact Below.refl _ _) | (with_reducible assumption) | (with_reducible apply bel_alloc) | (with_reducible apply bel_drew) | (with_reducible apply bel_drewN) | (with_reducible refine bel_trans ?_ (by with_reducible assumption)) | (with_reducible refine bel_trans ?_ (HF.out _)) | (with_reducible refine bel_set ?_ (by simp) _) | (with_reducible refine bel_set ?_ (by simp; omega) _) | (with_reducible refine bel_set ?_ (by omega) _))))).below hbel6 (Nat.lt_succ_self _)
            have hb6 : Below w.heap.size w w6 := (bel_alloc (bel_trans hbx hb35)).trans (hbel6.mono (by omega))
            (first | (go_round; (case rel => exact ⟨m', q - 2, j, acc ++ [an], an, rfl, by go_num, { hq := by omega, even := by omega, hq2 := by omega, pos := by omega, kn := hjn, hacc := by simp; omega, ro := by rw [ERJ.out]; exact Int.le_refl _, full := by have := hF.full; rw [backL_yes HNE.out HZ2.out EJ.out (HMR.out.trans HRE.out)] at this; rw [HAN.out]; simpa using this, own := by simpa using hown6, ne := by simp, at' := by rw [HAN.out]; exact EJ.out }, hB6, hb6⟩); (case measure => (simp [intOf] <;> omega))) | (go_roundw; (case rel => exact ⟨m', q - 2, j, acc ++ [an], an, rfl, by go_num, { hq := by omega, even := by omega, hq2 := by omega, pos := by omega, kn := hjn, hacc := by simp; omega, ro := by rw [ERJ.out]; exact Int.le_refl _, full := by have := hF.full; rw [backL_yes HNE.out HZ2.out EJ.out (HMR.out.trans HRE.out)] at this; rw [HAN.out]; simpa using this, own := by simpa using hown6, ne := by simp, at' := by rw [HAN.out]; exact EJ.out }, hB6, hb6⟩); (case measure => (simp [intOf] <;> omega))) | (refine ⟨?_, by simp [intOf] <;> omega⟩; (repeat apply Exists.intro); refine ⟨?rel, ?fr⟩; (case fr => ((repeat' apply And.intro) <;> rfl)); (case rel => exact ⟨m', q - 2, j, acc ++ [an], an, rfl, by go_num, { hq := by omega, even := by omega, hq2 := by omega, pos := by omega, kn := hjn, hacc := by simp; omega, ro := by rw [ERJ.out]; exact Int.le_refl _, full := by have := hF.full; rw [backL_yes HNE.out HZ2.out EJ.out (HMR.out.trans HRE.out)] at this; rw [HAN.out]; simpa using this, own := by simpa using hown6, ne := by simp, at' := by rw [HAN.out]; exact EJ.out }, hB6, hb6⟩)))
      · have hful : acc = chainL D after r := by
          have := hF.full
          rw [backL_low HOK.out m q k (fun i hi => by have := HSO.out i hi; rw [← HLW.out] at this; omega), List.append_nil] at this
          exact this
        have hown9 := hF.own
        rw [hful] at hown9
        clear hful
        go_wp2_with fail
        go_ret
        exact ⟨_, rfl, hown9.mono (by omega), hbx⟩
    · have hful : acc = chainL D after r := by have := hF.full; rw [backL_end (.inl (by omega)), List.append_nil] at this; exact this
      have hown9 := hF.own
      rw [hful] at hown9
      clear hful
      go_wp2_with fail
      go_ret
      exact ⟨_, rfl, hown9.mono (by omega), hbx⟩
end Go.Proofs.Ythpljlffjbodpaa
