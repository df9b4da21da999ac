/- Tables: Apply, at the reference, a sender that is there. -/
import Derived.Test.YtbakkpabiknlmaaGreatSyNw0
import Derived.Deep.RegionHeld3
namespace Go.Proofs.YtbakkpabiknlmaaGreat
open Go.RowKit
set_option linter.unusedSimpArgs false
set_option linter.unusedVariables false

set_option maxRecDepth 100000 in
set_option maxHeartbeats 40000000 in
theorem ref22_Apply_okT (A : Option Addr) (n c : Nat) (l : List PairD) (B : Option Addr) (m d : Nat) (q : List AcctD) (x : TxD) (w : World) (hl : PairsR w A n l) (hq : AcctsR w B m q) (hM : MayT l q) (hO : OkT l q x) (hya : khasA q x.se = true) :
    Calls Tryz.prog 57 #[.agg #[.slice A n c, .slice B m d], .agg #[.int .i64 x.se, .int .i64 x.sq, .string x.k, .string x.v]] w fun e w' => ∃ vp va, e = .returned (.tuple #[.agg #[vp, va], .bool true]) ∧ OwnP w' w.heap.size vp (setP l x) ∧ OwnA w' w.heap.size va (setA q x) ∧ Disj vp va ∧ Below w.heap.size w w' := by
  have HL := Lib.hid hl
  have HQ := Lib.hid hq
  have HN := Lib.hid hl.1
  have HMl := Lib.hid hq.1
  have hn : n ≤ 4096 := by rw [← hl.1]; exact hM.1.1
  have hm : m ≤ 4096 := by rw [← hq.1]; exact hM.2.1
  have HM := Lib.hid hM
  have HO := Lib.hid hO
  obtain ⟨k, hk⟩ : ∃ k, kposP l x.k = k := ⟨_, rfl⟩
  obtain ⟨i, hi⟩ : ∃ i, kposA q x.se = i := ⟨_, rfl⟩
  have HK := Lib.hid hk
  have HI := Lib.hid hi
  have hty : txS x = true := hO.1
  have hkn : k ≤ n := by rw [← hk, ← hl.1]; exact cnt_le _ _
  have him0 : i ≤ m := by rw [← hi, ← hq.1]; exact cnt_le _ _
  obtain ⟨la, hla⟩ : ∃ la, lastA q x.se = la := ⟨_, rfl⟩
  have hsq : x.sq = la + 1 := by rw [← hla]; exact hO.2.1
  have hlab : 0 ≤ la ∧ la ≤ 1099511627776 := by
    have := (txS_iff.1 hty)
    omega
  have HLA := Lib.hid hla
  obtain ⟨yp, hyp⟩ : ∃ y, khasP l x.k = y := ⟨_, rfl⟩
  have HHas := Lib.hid hya
  have HTh := Lib.hid hyp
  have hmd : true = false → decide ((4096 : Int) ≤ (m : Int)) = false := fun h => by
    have : ¬ 4096 ≤ m := fun h2 => hO.2.2.1 ⟨by rw [hya]; exact h, by rw [hq.1]; exact h2⟩
    simp; omega
  have hnd : yp = false → ¬ x.v.size = 0 → decide ((4096 : Int) ≤ (n : Int)) = false := fun h hv => by
    have : ¬ 4096 ≤ n := fun h2 => hO.2.2.2 ⟨by rw [hyp]; exact h, hv, by rw [hl.1]; exact h2⟩
    simp; omega
  have nil0 : x.v.size = 0 → (x.v.toList != []) = false ∧ (x.v.toList == []) = true := fun h => by rw [toList_nil.2 h]; exact ⟨rfl, rfl⟩
  have nil1 : ¬ x.v.size = 0 → (x.v.toList != []) = true ∧ (x.v.toList == []) = false := fun h => by rw [bne_iff_ne, beq_eq_false_iff_ne]; exact ⟨fun g => h (toList_nil.1 g), fun g => h (toList_nil.1 g)⟩
  obtain ⟨yv, hyv⟩ : ∃ yv, yv = decide (x.v.size = 0) := ⟨_, rfl⟩
  have hvv : (x.v.toList != []) = !yv ∧ (x.v.toList == []) = yv := by
    by_cases h : x.v.size = 0
    · rw [hyv, decide_eq_true h]; exact nil0 h
    · rw [hyv, decide_eq_false h]; exact nil1 h
  have hnd2 : yp = false → yv = false → decide ((4096 : Int) ≤ (n : Int)) = false := fun h h2 => hnd h (by rw [h2] at hyv; simpa using hyv.symm)
  have HYV := Lib.hid hyv
  obtain ⟨sq, hsqe⟩ : ∃ sq, x.sq = sq := ⟨_, rfl⟩
  have hsq2 : sq = la + 1 := by rw [← hsqe]; exact hsq
  have HSQ := Lib.hid hsqe
  have HSQ2 := Lib.hid hsq2
  have HVV := Lib.hid hvv
  have HND := Lib.hid hnd2
  clear hl hq hM hO hk hi hsq hla hya hyp nil0 nil1 hyv hnd hsq2 hvv hmd hnd2
  have htx : ∀ W : World, Calls Tryz.prog 71 #[.agg #[.int .i64 x.se, .int .i64 sq, .string x.k, .string x.v]] W fun e w' => e = .returned (.bool true) ∧ Below W.heap.size W w' := fun W => by rw [← hsqe]; exact ref4_Tx x true W hty
  have HTX := Lib.hid htx
  rw [hsqe]
  clear hsqe htx
  go_enter Tryz.func57, Tryz.ntmps57
  go_wp2_with fail
  refine (HTX.out _).mono ?_
  rintro e w1 ⟨rfl, hb1⟩
  have hbw1 : Below w.heap.size w w1 := by (repeat (first | (with_reducible exact Below.refl _ _) | (with_reducible assumption) | (with_reducible apply bel_alloc) | (with_reducible apply bel_drew) | (with_reducible apply bel_drewN) | (with_reducible refine bel_trans ?_ (by with_reducible assumption)) | (with_reducible refine bel_trans ?_ (HF.out _)) | ((with_reducible refine bel_set3 ?_ ?_); rotate_left; omega)))
  have hX1 : Blk w1 (w.heap.size + 1) 85 [.int .i64 x.se, .int .i64 sq, .string x.k, .string x.v] := Blk.up (w := ((w.alloc (.cells #[.slice A n c, .slice B m d] 25)).alloc (.cells #[.int .i64 x.se, .int .i64 sq, .string x.k, .string x.v] 85)).alloc (.cells #[.slice none 0 0, .slice none 0 0] 25)) (by have q := (Blk.new (w.alloc (.cells #[.slice A n c, .slice B m d] 25)) 85 [.int .i64 x.se, .int .i64 sq, .string x.k, .string x.v]).up (w' := ((w.alloc (.cells #[.slice A n c, .slice B m d] 25)).alloc (.cells #[.int .i64 x.se, .int .i64 sq, .string x.k, .string x.v] 85)).alloc (.cells #[.slice none 0 0, .slice none 0 0] 25)) (by (repeat (first | (with_reducible exact Below.refl _ _) | (with_reducible assumption) | (with_reducible apply bel_alloc) | (with_reducible apply bel_drew) | (with_reducible apply bel_drewN) | (with_reducible refine bel_trans ?_ (by with_reducible assumption)) | (with_reducible refine bel_trans ?_ (HF.out _)) | (with_reducible refine bel_set ?_ (by simp) _) | (with_reducible refine bel_set ?_ (by simp; omega) _) | (with_reducible refine bel_set ?_ (by omega) _)))); simpa using q) hb1
  have hR1 : Blk w1 (w.heap.size + 2) 25 [.slice none 0 0, .slice none 0 0] := Blk.up (w := ((w.alloc (.cells #[.slice A n c, .slice B m d] 25)).alloc (.cells #[.int .i64 x.se, .int .i64 sq, .string x.k, .string x.v] 85)).alloc (.cells #[.slice none 0 0, .slice none 0 0] 25)) (by have q := Blk.new ((w.alloc (.cells #[.slice A n c, .slice B m d] 25)).alloc (.cells #[.int .i64 x.se, .int .i64 sq, .string x.k, .string x.v] 85)) 25 [.slice none 0 0, .slice none 0 0]; simpa using q) hb1
  have hT1 : Blk w1 w.heap.size 25 [.slice A n c, .slice B m d] := Blk.up (w := ((w.alloc (.cells #[.slice A n c, .slice B m d] 25)).alloc (.cells #[.int .i64 x.se, .int .i64 sq, .string x.k, .string x.v] 85)).alloc (.cells #[.slice none 0 0, .slice none 0 0] 25)) ((Blk.new w 25 [.slice A n c, .slice B m d]).up (by (repeat (first | (with_reducible exact Below.refl _ _) | (with_reducible assumption) | (with_reducible apply bel_alloc) | (with_reducible apply bel_drew) | (with_reducible apply bel_drewN) | (with_reducible refine bel_trans ?_ (by with_reducible assumption)) | (with_reducible refine bel_trans ?_ (HF.out _)) | (with_reducible refine bel_set ?_ (by simp) _) | (with_reducible refine bel_set ?_ (by simp; omega) _) | (with_reducible refine bel_set ?_ (by omega) _))))) hb1
  clear hb1
  have t_0 := (hT1.box).2 0 _ rfl; have t_1 := (hT1.box).2 1 _ rfl
  have x_0 := (hX1.box).2 0 _ rfl; have x_1 := (hX1.box).2 1 _ rfl; have x_2 := (hX1.box).2 2 _ rfl; have x_3 := (hX1.box).2 3 _ rfl
  go_wp2_with fail
  refine (refs_A B m d q x.se i true _ (HQ.out.up hbw1) HI.out HHas.out).mono ?_
  rintro e w2 ⟨rfl, hb2⟩
  have hbw2 := bel_trans hbw1 hb2
  have hX2 := hX1.up hb2
  have hR2 := hR1.up hb2
  have hT2 := hT1.up hb2
  clear t_0 t_1 x_0 x_1 x_2 x_3 hX1 hR1 hT1 hb2
  have t_0 := (hT2.box).2 0 _ rfl; have t_1 := (hT2.box).2 1 _ rfl
  have x_0 := (hX2.box).2 0 _ rfl; have x_1 := (hX2.box).2 1 _ rfl; have x_2 := (hX2.box).2 2 _ rfl; have x_3 := (hX2.box).2 3 _ rfl
  go_wp2_with fail
  refine (refs_P A n c l x.k k yp _ (HL.out.up hbw2) HK.out HTh.out).mono ?_
  rintro e w3 ⟨rfl, hb3⟩
  have hbw3 := bel_trans hbw2 hb3
  have hX3 := hX2.up hb3
  have hR3 := hR2.up hb3
  have hT3 := hT2.up hb3
  clear t_0 t_1 x_0 x_1 x_2 x_3 hX2 hR2 hT2 hb3 hbw1 hbw2
  have t_0 := (hT3.box).2 0 _ rfl; have t_1 := (hT3.box).2 1 _ rfl
  have x_0 := (hX3.box).2 0 _ rfl; have x_1 := (hX3.box).2 1 _ rfl; have x_2 := (hX3.box).2 2 _ rfl; have x_3 := (hX3.box).2 3 _ rfl
  have HX3 := Lib.hid hX3
  have HR3 := Lib.hid hR3
  have HBW3 := Lib.hid hbw3
  have hxl3 := hX3.lt
  have htl3 := hT3.lt
  clear hX3 hR3 hT3
  obtain ⟨him, hse⟩ := khasA_lt HI.out HHas.out
  rw [HMl.out] at him
  obtain ⟨bq, oq, rfl, hbq, hcq⟩ := (HQ.out.up hbw3).at (by omega)
  obtain ⟨_, cq1⟩ := hcq i him
  have elq : (ath q i).sq = la := by rw [← HLA.out]; unfold lastA; rw [if_pos HHas.out, HI.out]
  rw [elq] at cq1
  clear hcq elq
  obtain rfl := HSQ2.out
  go_upto_region 8 with fail
  go_cut [71] from 15 (fun s71 wx => s71 = .bool false ∧ wx = w3)
  case first =>
    cases yp
    case' false =>
      cases yv
      case' false => have hnd3 := HND.out rfl rfl
    all_goals
      obtain ⟨hv1, hv2⟩ := HVV.out
      (try simp only [Bool.not_false, Bool.not_true] at hv1)
      go_wp2_with fail
      go_meet
      exact ⟨rfl, rfl⟩
  case rest =>
  obtain ⟨h71, hwc⟩ := hcut
  subst hwc
  subst h71
  go_wp2_with fail
  refine (ref0_CopyTable A n c l (some ⟨bq, oq, none⟩) m d q _ (HL.out.up HBW3.out) (HQ.out.up HBW3.out) (by omega) (by omega)).mono ?_
  rintro e w4 ⟨vp, va, rfl, hp4, ha4, hD4, hb4⟩
  obtain ⟨Ap, cp, rfl, hpr4, hncp, _⟩ := hp4.pairs (by rw [HN.out]; omega)
  obtain ⟨Aa, ca, rfl, har4, hnca, _⟩ := ha4.accts (by rw [HMl.out]; omega)
  rw [HN.out] at hp4 hpr4 hncp hD4 ⊢
  rw [HMl.out] at ha4 har4 hnca hD4 ⊢
  have hz4 := hb4.size
  have hz3 := HR3.out.lt
  obtain ⟨by_, hby⟩ : ∃ b, b = w4.heap.size := ⟨_, rfl⟩
  have hbyl : w.heap.size + 3 ≤ by_ := by omega
  have hTN : TabR (w4.alloc (.cells #[.slice Ap n cp, .slice Aa m ca] 25)) (w.heap.size + 3) by_ (.slice Ap n cp) (.slice Aa m ca) l q := { blk := by rw [hby]; exact Blk.new w4 25 [.slice Ap n cp, .slice Aa m ca], p := OwnP.mono (hp4.up (by (repeat (first | (with_reducible exact Below.refl _ _) | (with_reducible assumption) | (with_reducible apply bel_alloc) | (with_reducible apply bel_drew) | (with_reducible apply bel_drewN) | (with_reducible refine bel_trans ?_ (by with_reducible assumption)) | (with_reducible refine bel_trans ?_ (HF.out _)) | (with_reducible refine bel_set ?_ (by simp) _) | (with_reducible refine bel_set ?_ (by simp; omega) _) | (with_reducible refine bel_set ?_ (by omega) _))))) (by omega), a := OwnA.mono (ha4.up (by (repeat (first | (with_reducible exact Below.refl _ _) | (with_reducible assumption) | (with_reducible apply bel_alloc) | (with_reducible apply bel_drew) | (with_reducible apply bel_drewN) | (with_reducible refine bel_trans ?_ (by with_reducible assumption)) | (with_reducible refine bel_trans ?_ (HF.out _)) | (with_reducible refine bel_set ?_ (by simp) _) | (with_reducible refine bel_set ?_ (by simp; omega) _) | (with_reducible refine bel_set ?_ (by omega) _))))) (by omega), d := hD4, np := fun e => (by have := (own_lt hp4 _ e).2; omega), na := fun e => (by have := (own_lt ha4 _ e).2; omega), cb := hbyl }
  have HX4 := Lib.hid (HX3.out.up (w' := w4.alloc (.cells #[.slice Ap n cp, .slice Aa m ca] 25)) (by (repeat (first | (with_reducible exact Below.refl _ _) | (with_reducible assumption) | (with_reducible apply bel_alloc) | (with_reducible apply bel_drew) | (with_reducible apply bel_drewN) | (with_reducible refine bel_trans ?_ (by with_reducible assumption)) | (with_reducible refine bel_trans ?_ (HF.out _)) | (with_reducible refine bel_set ?_ (by simp) _) | (with_reducible refine bel_set ?_ (by simp; omega) _) | (with_reducible refine bel_set ?_ (by omega) _)))))
  have HR4 := Lib.hid (HR3.out.up (w' := w4.alloc (.cells #[.slice Ap n cp, .slice Aa m ca] 25)) (by (repeat (first | (with_reducible exact Below.refl _ _) | (with_reducible assumption) | (with_reducible apply bel_alloc) | (with_reducible apply bel_drew) | (with_reducible apply bel_drewN) | (with_reducible refine bel_trans ?_ (by with_reducible assumption)) | (with_reducible refine bel_trans ?_ (HF.out _)) | (with_reducible refine bel_set ?_ (by simp) _) | (with_reducible refine bel_set ?_ (by simp; omega) _) | (with_reducible refine bel_set ?_ (by omega) _)))))
  have HT4 := Lib.hid hTN
  have hbw4 : Below w.heap.size w (w4.alloc (.cells #[.slice Ap n cp, .slice Aa m ca] 25)) := bel_trans HBW3.out (by (repeat (first | (with_reducible exact Below.refl _ _) | (with_reducible assumption) | (with_reducible apply bel_alloc) | (with_reducible apply bel_drew) | (with_reducible apply bel_drewN) | (with_reducible refine bel_trans ?_ (by with_reducible assumption)) | (with_reducible refine bel_trans ?_ (HF.out _)) | (with_reducible refine bel_set ?_ (by simp) _) | (with_reducible refine bel_set ?_ (by simp; omega) _) | (with_reducible refine bel_set ?_ (by omega) _))))
  clear hp4 ha4 hpr4 har4 hD4 hTN t_0 t_1 x_0 x_1 x_2 x_3
  go_upto_if 75 with fail
  rw [← hby]
  clear hby hz4 hb4 hz3
  generalize (w4.alloc (.cells #[.slice Ap n cp, .slice Aa m ca] 25)) = wy at *
  go_cut [] from 15 (fun wx => ∃ va, TabR wx (w.heap.size + 3) by_ (.slice Ap n cp) va l (setA q x) ∧ Blk wx (w.heap.size + 1) 85 [.int .i64 x.se, .int .i64 (la + 1), .string x.k, .string x.v] ∧ Blk wx (w.heap.size + 2) 25 [.slice none 0 0, .slice none 0 0] ∧ Below w.heap.size w wx)
  case first =>
    have HT := HT4
    have HX := HX4
    have HRB := HR4
    have hbl := HT.out.blk.lt
    have hxl := HX.out.lt
    have t_0 := (HT.out.blk.box).2 0 _ rfl; have t_1 := (HT.out.blk.box).2 1 _ rfl
    have x_0 := (HX.out.box).2 0 _ rfl; have x_1 := (HX.out.box).2 1 _ rfl; have x_2 := (HX.out.box).2 2 _ rfl; have x_3 := (HX.out.box).2 3 _ rfl
    have ho9 : wy.ownsRow (w.heap.size + 3) 93 2 (.slice Aa m ca) m (flat encA q) := by have q1 := HT.out.a; unfold OwnA at q1; rw [HMl.out] at q1; exact q1
    as_aux_lemma =>
      have e : setA q x = q.set i ⟨(ath q i).se, la + 1⟩ := by unfold setA; rw [if_pos HHas.out, HI.out, hse, HSQ.out]
      rcases own_shape ho9 with ⟨_, h0⟩ | ⟨g8, c8, e8, hgC8, hcc8⟩
      · omega
      injection e8 with e81 e82 e83
      subst e81; subst e83
      obtain ⟨g1, f1⟩ := own_get ho9
      have c1 : wy.cell? ⟨g8, i * 2 + 1, none⟩ = some (.int .i64 (ath q i).sq) := g1 _ _ (by rw [flat_at encA_len q i 1 (by rw [HMl.out]; exact him) (by omega)]; rfl)
      have hgl := (own_lt ho9 g8 rfl).2
      have hT9 := HT.out.putA (v := la + 1) HMl.out him
      rw [← e] at hT9
      have hne1 : w.heap.size + 1 ≠ g8 := by omega
      have hne2 : w.heap.size + 2 ≠ g8 := by omega
      clear g1 ho9 e
      go_wp2_with fail
      go_meet
      exact ⟨_, hT9, HX.out.far (p := ⟨g8, i * 2 + 1, none⟩) hne1 _, HRB.out.far (p := ⟨g8, i * 2 + 1, none⟩) hne2 _, by (repeat (first | (with_reducible exact Below.refl _ _) | (with_reducible assumption) | (with_reducible apply bel_alloc) | (with_reducible apply bel_drew) | (with_reducible apply bel_drewN) | (with_reducible refine bel_trans ?_ (by with_reducible assumption)) | (with_reducible refine bel_trans ?_ (HF.out _)) | ((with_reducible refine bel_set3 ?_ ?_); rotate_left; omega)))⟩
  case rest =>
  obtain ⟨va, ht, hx, hr, hbw⟩ := hcut
  go_upto_block 0 with fail
  go_cut [] from 15 (fun wx => ∃ vp va, TabR wx (w.heap.size + 3) by_ vp va (setP l x) (setA q x) ∧ Blk wx (w.heap.size + 2) 25 [.slice none 0 0, .slice none 0 0] ∧ Below w.heap.size w wx)
  case first =>
    obtain ⟨wy, hwy⟩ : ∃ x, x = wc := ⟨_, rfl⟩
    subst hwy
    have HT := Lib.hid ht
    have HX := Lib.hid hx
    have HRB := Lib.hid hr
    have hbl := ht.blk.lt
    have hxl := hx.lt
    obtain ⟨A9, c9, rfl, _⟩ := ht.a.accts (by have := (HM.out.set HO.out).2.1; omega)
    have t_0 := (ht.blk.box).2 0 _ rfl; have t_1 := (ht.blk.box).2 1 _ rfl
    have x_0 := (hx.box).2 0 _ rfl; have x_1 := (hx.box).2 1 _ rfl; have x_2 := (hx.box).2 2 _ rfl; have x_3 := (hx.box).2 3 _ rfl
    have ho9 : wy.ownsRow (w.heap.size + 3) 91 2 (.slice Ap n cp) n (flat encP l) := by have q1 := ht.p; unfold OwnP at q1; rw [HN.out] at q1; exact q1
    have hpr9 : PairsR wy Ap n l := ⟨HN.out, by obtain ⟨A', c', e', h', _⟩ := own_row ho9 (by omega); injection e' with e1 e2 e3; subst e1; exact h'⟩
    clear ht hx hr HT4 HX4 HR4 hbw4
    obtain ⟨hv1, hv2⟩ := HVV.out
    cases yp
    · cases yv
      · have HV : ¬ x.v.size = 0 := by have := HYV.out; simpa using this.symm
        (try simp only [Bool.not_false, Bool.not_true] at hv1)
        as_aux_lemma =>
          have e : setP l x = l.take k ++ [⟨x.k, x.v⟩] ++ l.drop k := by unfold setP; rw [if_neg HV, if_neg (by rw [HTh.out]; simp), HK.out]
          have HE := Lib.hid e.symm
          clear e
          have HTL : Hid ((l.take k).length = k) := Lib.hid (by rw [List.length_take, HN.out]; omega)
          have HR9 : Hid (PairsR wy Ap n l) := Lib.hid hpr9
          clear hpr9
          have HCY : Hid (∀ Y, Below wy.heap.size wy Y → Y.cell? ⟨by_, 0, none⟩ = some (.slice Ap n cp) ∧ Y.cell? ⟨w.heap.size + 1, 2, none⟩ = some (.string x.k) ∧ Y.cell? ⟨w.heap.size + 1, 3, none⟩ = some (.string x.v)) := Lib.hid (fun Y hY => ⟨(HT.out.blk.up hY).box.2 0 _ rfl, (HX.out.up hY).box.2 2 _ rfl, (HX.out.up hY).box.2 3 _ rfl⟩)
          rcases Nat.lt_or_ge k n with hlt | hge
          · rcases own_shape ho9 with ⟨_, h0⟩ | ⟨g, c9, e9, hgC, hcc⟩
            · omega
            injection e9 with e91 e92 e93
            subst e91; subst e93
            have hci : ¬ (cp = k) := by omega
            have hci2 : k ≤ cp := by omega
            clear ho9
            go_wp2_with fail
            go_region_held3 (fun Y => Y.cell? ⟨by_, 0, none⟩ = some (.slice (some ⟨g, 0, none⟩) n cp) ∧ Y.cell? ⟨w.heap.size + 1, 2, none⟩ = some (.string x.k) ∧ Y.cell? ⟨w.heap.size + 1, 3, none⟩ = some (.string x.v))
              ((refine HCY.out _ ?_; (first | (((repeat (first | (with_reducible exact Below.refl _ _) | (with_reducible assumption) | (with_reducible apply bel_alloc) | (with_reducible apply bel_drew) | (with_reducible apply bel_drewN) | (with_reducible refine bel_trans ?_ (by with_reducible assumption)) | (with_reducible refine bel_trans ?_ (HF.out _)) | ((with_reducible refine bel_set3 ?_ ?_); rotate_left; omega)))); done) | ((refine Below.trans ?_ hb5); ((repeat (first | (with_reducible exact Below.refl _ _) | (with_reducible assumption) | (with_reducible apply bel_alloc) | (with_reducible apply bel_drew) | (with_reducible apply bel_drewN) | (with_reducible refine bel_trans ?_ (by with_reducible assumption)) | (with_reducible refine bel_trans ?_ (HF.out _)) | ((with_reducible refine bel_set3 ?_ ?_); rotate_left; omega)))); done))))
              (first
                | (refine step_appP rfl (.tmp 139) (.tmp 145) rfl rfl wy.heap.size v3 (l.take k) (by simp [Act.eval, Act.put]) (own_mono (own_up hown3 (by (repeat (first | (with_reducible exact Below.refl _ _) | (with_reducible assumption) | (with_reducible apply bel_alloc) | (with_reducible apply bel_drew) | (with_reducible apply bel_drewN) | (with_reducible refine bel_trans ?_ (by with_reducible assumption)) | (with_reducible refine bel_trans ?_ (HF.out _)) | (with_reducible refine bel_set ?_ (by simp) _) | (with_reducible refine bel_set ?_ (by simp; omega) _) | (with_reducible refine bel_set ?_ (by omega) _))))) (by first | omega | (simp; omega) | (simp; done))) _ 0 1 1 [(⟨x.k, x.v⟩ : PairD)] (by simp [Act.eval, Act.put]; rfl) rfl (box_P (by first | exact BoxR.new _ _ _ | exact BoxR.up (w := (wy.alloc (.cells #[.string x.k, .string x.v] 91)).drew) (BoxR.new wy [.string x.k, .string x.v] 91) hb3)) (by have := HTL.out; omega) (by first | omega | (simp; omega) | (simp; done)) ?_; intro v5 w5 hown5 hg5 hb5 hat5)
                | (go_at_call 51; refine (ref0_CopyPairs _ k _ (l.take k) _ ((HR9.out.up (by (repeat (first | (with_reducible exact Below.refl _ _) | (with_reducible assumption) | (with_reducible apply bel_alloc) | (with_reducible apply bel_drew) | (with_reducible apply bel_drewN) | (with_reducible refine bel_trans ?_ (by with_reducible assumption)) | (with_reducible refine bel_trans ?_ (HF.out _)) | (with_reducible refine bel_set ?_ (by simp) _) | (with_reducible refine bel_set ?_ (by simp; omega) _) | (with_reducible refine bel_set ?_ (by omega) _))))).take hkn) (by omega)).mono ?_; rintro e9 w3 ⟨v3, rfl, hown3, hb3⟩; have hz3 : w.heap.size + 2 ≤ w3.heap.size := (by have hq := hb3.size; (try simp at hq); omega); have hz4 : wy.heap.size ≤ w3.heap.size := (by have hq := hb3.size; (try simp at hq); omega); have hc3 := fun o => (bcell hb3).1 (w.heap.size + 1) o (by first | (simp; done) | (simp; omega) | omega)))
            all_goals
              have hb5w : Below wy.heap.size wy w5 := by (refine Below.trans ?_ hb5; (repeat (first | (with_reducible exact Below.refl _ _) | (with_reducible assumption) | (with_reducible apply bel_alloc) | (with_reducible apply bel_drew) | (with_reducible apply bel_drewN) | (with_reducible refine bel_trans ?_ (by with_reducible assumption)) | (with_reducible refine bel_trans ?_ (HF.out _)) | (with_reducible refine bel_set ?_ (by simp) _) | (with_reducible refine bel_set ?_ (by simp; omega) _) | (with_reducible refine bel_set ?_ (by omega) _))))
              have HO5 := Lib.hid hown5
              have hT5 := HT.out.up hb5w
              have hX5 := HX.out.up hb5w
              have HT5 := Lib.hid hT5
              have HX5 := Lib.hid hX5
              have hbl5 := hT5.blk.lt
              have hxl5 := hX5.lt
              clear hown3 hown5 hz3 hz4 hc3 t_0 t_1 x_0 x_1 x_2 x_3 hb5
              have t_0 := (hT5.blk.box).2 0 _ rfl; have t_1 := (hT5.blk.box).2 1 _ rfl
              have x_0 := (hX5.box).2 0 _ rfl; have x_1 := (hX5.box).2 1 _ rfl; have x_2 := (hX5.box).2 2 _ rfl; have x_3 := (hX5.box).2 3 _ rfl
              clear hT5 hX5
              have HDC := Lib.hid (drop_P (HR9.out.up hb5w) hlt)
              go_wp2_with (at_builtin; refine wpList_appP rfl (.tmp 147) (.tmp 151) rfl rfl wy.heap.size v5 (l.take k ++ [(⟨x.k, x.v⟩ : PairD)]) rfl HO5.out g (0 + k * 2) (n - k) (cp - k) (l.drop k) (by first | rfl | (simp [Act.eval])) (by rw [List.length_drop, HN.out]) HDC.out (by have := HTL.out; rw [List.length_append]; simp; omega) hb5w.size ?_; intro v6 w6 hown6 hg6 hb6 hat6; obtain ⟨A6, n6, c6, rfl, _⟩ := hown6.named (by have := HTL.out; have := HN.out; simp; omega); have hb6w := hb5w.trans hb6; have hT6 := HT.out.up hb6w; have f6 := hT6.blk.frozen; have b6 := hT6.blk.box.2 0 _ rfl)
              have HO6 := Lib.hid hown6
              have e6 : l.take k ++ [(⟨x.k, x.v⟩ : PairD)] ++ l.drop k = setP l x := HE.out
              go_meet
              rw [e6] at HO6
              exact ⟨_, _, HT.out.freshP hb6w HO6.out,  (HRB.out.up hb6w).far (p := ⟨by_, 0, none⟩) (by dsimp only; omega) _, by (repeat (first | (with_reducible exact Below.refl _ _) | (with_reducible assumption) | (with_reducible apply bel_alloc) | (with_reducible apply bel_drew) | (with_reducible apply bel_drewN) | (with_reducible refine bel_trans ?_ (by with_reducible assumption)) | (with_reducible refine bel_trans ?_ (HF.out _)) | ((with_reducible refine bel_set3 ?_ ?_); rotate_left; omega)))⟩
          · have hmz9 : n - k = 0 := by omega
            have hdrop : l.drop k = [] := List.drop_of_length_le (by rw [HN.out]; exact hge)
            have HRZ : Hid (∀ (W : World) (A' : Option Addr), PairsR W A' 0 (l.drop k)) := Lib.hid (fun W A' => by rw [hdrop]; exact ⟨rfl, by simp [flat], by omega, fun h => absurd h (by omega)⟩)
            have HRM : Hid (∀ (W : World) (A' : Option Addr), PairsR W A' (n - k) (l.drop k)) := Lib.hid (fun W A' => by rw [hmz9]; exact HRZ.out W A')
            have hci2 : k ≤ cp := by omega
            clear ho9 hge hdrop
            by_cases hcq : cp = k
            · have hcq3 : k = cp := hcq.symm
              subst hcq3
              rcases Ap with _ | a9
              · go_wp2_with fail
                go_region_held3 (fun Y => Y.cell? ⟨by_, 0, none⟩ = some (.slice none n k) ∧ Y.cell? ⟨w.heap.size + 1, 2, none⟩ = some (.string x.k) ∧ Y.cell? ⟨w.heap.size + 1, 3, none⟩ = some (.string x.v))
                  ((refine HCY.out _ ?_; (first | (((repeat (first | (with_reducible exact Below.refl _ _) | (with_reducible assumption) | (with_reducible apply bel_alloc) | (with_reducible apply bel_drew) | (with_reducible apply bel_drewN) | (with_reducible refine bel_trans ?_ (by with_reducible assumption)) | (with_reducible refine bel_trans ?_ (HF.out _)) | ((with_reducible refine bel_set3 ?_ ?_); rotate_left; omega)))); done) | ((refine Below.trans ?_ hb5); ((repeat (first | (with_reducible exact Below.refl _ _) | (with_reducible assumption) | (with_reducible apply bel_alloc) | (with_reducible apply bel_drew) | (with_reducible apply bel_drewN) | (with_reducible refine bel_trans ?_ (by with_reducible assumption)) | (with_reducible refine bel_trans ?_ (HF.out _)) | ((with_reducible refine bel_set3 ?_ ?_); rotate_left; omega)))); done))))
                  (first
                    | (refine step_appP rfl (.tmp 139) (.tmp 145) rfl rfl wy.heap.size v3 (l.take k) (by simp [Act.eval, Act.put]) (own_mono (own_up hown3 (by (repeat (first | (with_reducible exact Below.refl _ _) | (with_reducible assumption) | (with_reducible apply bel_alloc) | (with_reducible apply bel_drew) | (with_reducible apply bel_drewN) | (with_reducible refine bel_trans ?_ (by with_reducible assumption)) | (with_reducible refine bel_trans ?_ (HF.out _)) | (with_reducible refine bel_set ?_ (by simp) _) | (with_reducible refine bel_set ?_ (by simp; omega) _) | (with_reducible refine bel_set ?_ (by omega) _))))) (by first | omega | (simp; omega) | (simp; done))) _ 0 1 1 [(⟨x.k, x.v⟩ : PairD)] (by simp [Act.eval, Act.put]; rfl) rfl (box_P (by first | exact BoxR.new _ _ _ | exact BoxR.up (w := (wy.alloc (.cells #[.string x.k, .string x.v] 91)).drew) (BoxR.new wy [.string x.k, .string x.v] 91) hb3)) (by have := HTL.out; omega) (by first | omega | (simp; omega) | (simp; done)) ?_; intro v5 w5 hown5 hg5 hb5 hat5)
                    | (go_at_call 51; refine (ref0_CopyPairs _ k _ (l.take k) _ ((HR9.out.up (by (repeat (first | (with_reducible exact Below.refl _ _) | (with_reducible assumption) | (with_reducible apply bel_alloc) | (with_reducible apply bel_drew) | (with_reducible apply bel_drewN) | (with_reducible refine bel_trans ?_ (by with_reducible assumption)) | (with_reducible refine bel_trans ?_ (HF.out _)) | (with_reducible refine bel_set ?_ (by simp) _) | (with_reducible refine bel_set ?_ (by simp; omega) _) | (with_reducible refine bel_set ?_ (by omega) _))))).take hkn) (by omega)).mono ?_; rintro e9 w3 ⟨v3, rfl, hown3, hb3⟩; have hz3 : w.heap.size + 2 ≤ w3.heap.size := (by have hq := hb3.size; (try simp at hq); omega); have hz4 : wy.heap.size ≤ w3.heap.size := (by have hq := hb3.size; (try simp at hq); omega); have hc3 := fun o => (bcell hb3).1 (w.heap.size + 1) o (by first | (simp; done) | (simp; omega) | omega)))
                all_goals
                  have hb5w : Below wy.heap.size wy w5 := by (refine Below.trans ?_ hb5; (repeat (first | (with_reducible exact Below.refl _ _) | (with_reducible assumption) | (with_reducible apply bel_alloc) | (with_reducible apply bel_drew) | (with_reducible apply bel_drewN) | (with_reducible refine bel_trans ?_ (by with_reducible assumption)) | (with_reducible refine bel_trans ?_ (HF.out _)) | (with_reducible refine bel_set ?_ (by simp) _) | (with_reducible refine bel_set ?_ (by simp; omega) _) | (with_reducible refine bel_set ?_ (by omega) _))))
                  have HO5 := Lib.hid hown5
                  have hT5 := HT.out.up hb5w
                  have hX5 := HX.out.up hb5w
                  have HT5 := Lib.hid hT5
                  have HX5 := Lib.hid hX5
                  have hbl5 := hT5.blk.lt
                  have hxl5 := hX5.lt
                  clear hown3 hown5 hz3 hz4 hc3 t_0 t_1 x_0 x_1 x_2 x_3 hb5
                  have t_0 := (hT5.blk.box).2 0 _ rfl; have t_1 := (hT5.blk.box).2 1 _ rfl
                  have x_0 := (hX5.box).2 0 _ rfl; have x_1 := (hX5.box).2 1 _ rfl; have x_2 := (hX5.box).2 2 _ rfl; have x_3 := (hX5.box).2 3 _ rfl
                  clear hT5 hX5
                  go_wp2_with (at_builtin; refine wpList_appRP rfl (.tmp 147) (.tmp 151) rfl rfl wy.heap.size v5 (l.take k ++ [(⟨x.k, x.v⟩ : PairD)]) rfl HO5.out _ _ _ (l.drop k) (by first | rfl | (simp [Act.eval])) (by first | exact HRZ.out _ _ | exact HRM.out _ _) (by have := HTL.out; rw [List.length_append]; simp; omega) hb5w.size ?_; intro v6 w6 hown6 hg6 hb6 hat6; obtain ⟨A6, n6, c6, rfl, _⟩ := hown6.named (by have := HTL.out; have := HN.out; simp; omega); have hb6w := hb5w.trans hb6; have hT6 := HT.out.up hb6w; have f6 := hT6.blk.frozen; have b6 := hT6.blk.box.2 0 _ rfl)
                  have HO6 := Lib.hid hown6
                  have e6 : l.take k ++ [(⟨x.k, x.v⟩ : PairD)] ++ l.drop k = setP l x := HE.out
                  go_meet
                  rw [e6] at HO6
                  exact ⟨_, _, HT.out.freshP hb6w HO6.out,  (HRB.out.up hb6w).far (p := ⟨by_, 0, none⟩) (by dsimp only; omega) _, by (repeat (first | (with_reducible exact Below.refl _ _) | (with_reducible assumption) | (with_reducible apply bel_alloc) | (with_reducible apply bel_drew) | (with_reducible apply bel_drewN) | (with_reducible refine bel_trans ?_ (by with_reducible assumption)) | (with_reducible refine bel_trans ?_ (HF.out _)) | ((with_reducible refine bel_set3 ?_ ?_); rotate_left; omega)))⟩
              · go_wp2_with fail
                go_region_held3 (fun Y => Y.cell? ⟨by_, 0, none⟩ = some (.slice (some a9) n k) ∧ Y.cell? ⟨w.heap.size + 1, 2, none⟩ = some (.string x.k) ∧ Y.cell? ⟨w.heap.size + 1, 3, none⟩ = some (.string x.v))
                  ((refine HCY.out _ ?_; (first | (((repeat (first | (with_reducible exact Below.refl _ _) | (with_reducible assumption) | (with_reducible apply bel_alloc) | (with_reducible apply bel_drew) | (with_reducible apply bel_drewN) | (with_reducible refine bel_trans ?_ (by with_reducible assumption)) | (with_reducible refine bel_trans ?_ (HF.out _)) | ((with_reducible refine bel_set3 ?_ ?_); rotate_left; omega)))); done) | ((refine Below.trans ?_ hb5); ((repeat (first | (with_reducible exact Below.refl _ _) | (with_reducible assumption) | (with_reducible apply bel_alloc) | (with_reducible apply bel_drew) | (with_reducible apply bel_drewN) | (with_reducible refine bel_trans ?_ (by with_reducible assumption)) | (with_reducible refine bel_trans ?_ (HF.out _)) | ((with_reducible refine bel_set3 ?_ ?_); rotate_left; omega)))); done))))
                  (first
                    | (refine step_appP rfl (.tmp 139) (.tmp 145) rfl rfl wy.heap.size v3 (l.take k) (by simp [Act.eval, Act.put]) (own_mono (own_up hown3 (by (repeat (first | (with_reducible exact Below.refl _ _) | (with_reducible assumption) | (with_reducible apply bel_alloc) | (with_reducible apply bel_drew) | (with_reducible apply bel_drewN) | (with_reducible refine bel_trans ?_ (by with_reducible assumption)) | (with_reducible refine bel_trans ?_ (HF.out _)) | (with_reducible refine bel_set ?_ (by simp) _) | (with_reducible refine bel_set ?_ (by simp; omega) _) | (with_reducible refine bel_set ?_ (by omega) _))))) (by first | omega | (simp; omega) | (simp; done))) _ 0 1 1 [(⟨x.k, x.v⟩ : PairD)] (by simp [Act.eval, Act.put]; rfl) rfl (box_P (by first | exact BoxR.new _ _ _ | exact BoxR.up (w := (wy.alloc (.cells #[.string x.k, .string x.v] 91)).drew) (BoxR.new wy [.string x.k, .string x.v] 91) hb3)) (by have := HTL.out; omega) (by first | omega | (simp; omega) | (simp; done)) ?_; intro v5 w5 hown5 hg5 hb5 hat5)
                    | (go_at_call 51; refine (ref0_CopyPairs _ k _ (l.take k) _ ((HR9.out.up (by (repeat (first | (with_reducible exact Below.refl _ _) | (with_reducible assumption) | (with_reducible apply bel_alloc) | (with_reducible apply bel_drew) | (with_reducible apply bel_drewN) | (with_reducible refine bel_trans ?_ (by with_reducible assumption)) | (with_reducible refine bel_trans ?_ (HF.out _)) | (with_reducible refine bel_set ?_ (by simp) _) | (with_reducible refine bel_set ?_ (by simp; omega) _) | (with_reducible refine bel_set ?_ (by omega) _))))).take hkn) (by omega)).mono ?_; rintro e9 w3 ⟨v3, rfl, hown3, hb3⟩; have hz3 : w.heap.size + 2 ≤ w3.heap.size := (by have hq := hb3.size; (try simp at hq); omega); have hz4 : wy.heap.size ≤ w3.heap.size := (by have hq := hb3.size; (try simp at hq); omega); have hc3 := fun o => (bcell hb3).1 (w.heap.size + 1) o (by first | (simp; done) | (simp; omega) | omega)))
                all_goals
                  have hb5w : Below wy.heap.size wy w5 := by (refine Below.trans ?_ hb5; (repeat (first | (with_reducible exact Below.refl _ _) | (with_reducible assumption) | (with_reducible apply bel_alloc) | (with_reducible apply bel_drew) | (with_reducible apply bel_drewN) | (with_reducible refine bel_trans ?_ (by with_reducible assumption)) | (with_reducible refine bel_trans ?_ (HF.out _)) | (with_reducible refine bel_set ?_ (by simp) _) | (with_reducible refine bel_set ?_ (by simp; omega) _) | (with_reducible refine bel_set ?_ (by omega) _))))
                  have HO5 := Lib.hid hown5
                  have hT5 := HT.out.up hb5w
                  have hX5 := HX.out.up hb5w
                  have HT5 := Lib.hid hT5
                  have HX5 := Lib.hid hX5
                  have hbl5 := hT5.blk.lt
                  have hxl5 := hX5.lt
                  clear hown3 hown5 hz3 hz4 hc3 t_0 t_1 x_0 x_1 x_2 x_3 hb5
                  have t_0 := (hT5.blk.box).2 0 _ rfl; have t_1 := (hT5.blk.box).2 1 _ rfl
                  have x_0 := (hX5.box).2 0 _ rfl; have x_1 := (hX5.box).2 1 _ rfl; have x_2 := (hX5.box).2 2 _ rfl; have x_3 := (hX5.box).2 3 _ rfl
                  clear hT5 hX5
                  go_wp2_with (at_builtin; refine wpList_appRP rfl (.tmp 147) (.tmp 151) rfl rfl wy.heap.size v5 (l.take k ++ [(⟨x.k, x.v⟩ : PairD)]) rfl HO5.out _ _ _ (l.drop k) (by first | rfl | (simp [Act.eval])) (by first | exact HRZ.out _ _ | exact HRM.out _ _) (by have := HTL.out; rw [List.length_append]; simp; omega) hb5w.size ?_; intro v6 w6 hown6 hg6 hb6 hat6; obtain ⟨A6, n6, c6, rfl, _⟩ := hown6.named (by have := HTL.out; have := HN.out; simp; omega); have hb6w := hb5w.trans hb6; have hT6 := HT.out.up hb6w; have f6 := hT6.blk.frozen; have b6 := hT6.blk.box.2 0 _ rfl)
                  have HO6 := Lib.hid hown6
                  have e6 : l.take k ++ [(⟨x.k, x.v⟩ : PairD)] ++ l.drop k = setP l x := HE.out
                  go_meet
                  rw [e6] at HO6
                  exact ⟨_, _, HT.out.freshP hb6w HO6.out,  (HRB.out.up hb6w).far (p := ⟨by_, 0, none⟩) (by dsimp only; omega) _, by (repeat (first | (with_reducible exact Below.refl _ _) | (with_reducible assumption) | (with_reducible apply bel_alloc) | (with_reducible apply bel_drew) | (with_reducible apply bel_drewN) | (with_reducible refine bel_trans ?_ (by with_reducible assumption)) | (with_reducible refine bel_trans ?_ (HF.out _)) | ((with_reducible refine bel_set3 ?_ ?_); rotate_left; omega)))⟩
            · have hcq2 : ¬ (k = cp) := fun h => hcq h.symm
              rcases Ap with _ | a9
              · go_wp2_with fail
                go_region_held3 (fun Y => Y.cell? ⟨by_, 0, none⟩ = some (.slice none n cp) ∧ Y.cell? ⟨w.heap.size + 1, 2, none⟩ = some (.string x.k) ∧ Y.cell? ⟨w.heap.size + 1, 3, none⟩ = some (.string x.v))
                  ((refine HCY.out _ ?_; (first | (((repeat (first | (with_reducible exact Below.refl _ _) | (with_reducible assumption) | (with_reducible apply bel_alloc) | (with_reducible apply bel_drew) | (with_reducible apply bel_drewN) | (with_reducible refine bel_trans ?_ (by with_reducible assumption)) | (with_reducible refine bel_trans ?_ (HF.out _)) | ((with_reducible refine bel_set3 ?_ ?_); rotate_left; omega)))); done) | ((refine Below.trans ?_ hb5); ((repeat (first | (with_reducible exact Below.refl _ _) | (with_reducible assumption) | (with_reducible apply bel_alloc) | (with_reducible apply bel_drew) | (with_reducible apply bel_drewN) | (with_reducible refine bel_trans ?_ (by with_reducible assumption)) | (with_reducible refine bel_trans ?_ (HF.out _)) | ((with_reducible refine bel_set3 ?_ ?_); rotate_left; omega)))); done))))
                  (first
                    | (refine step_appP rfl (.tmp 139) (.tmp 145) rfl rfl wy.heap.size v3 (l.take k) (by simp [Act.eval, Act.put]) (own_mono (own_up hown3 (by (repeat (first | (with_reducible exact Below.refl _ _) | (with_reducible assumption) | (with_reducible apply bel_alloc) | (with_reducible apply bel_drew) | (with_reducible apply bel_drewN) | (with_reducible refine bel_trans ?_ (by with_reducible assumption)) | (with_reducible refine bel_trans ?_ (HF.out _)) | (with_reducible refine bel_set ?_ (by simp) _) | (with_reducible refine bel_set ?_ (by simp; omega) _) | (with_reducible refine bel_set ?_ (by omega) _))))) (by first | omega | (simp; omega) | (simp; done))) _ 0 1 1 [(⟨x.k, x.v⟩ : PairD)] (by simp [Act.eval, Act.put]; rfl) rfl (box_P (by first | exact BoxR.new _ _ _ | exact BoxR.up (w := (wy.alloc (.cells #[.string x.k, .string x.v] 91)).drew) (BoxR.new wy [.string x.k, .string x.v] 91) hb3)) (by have := HTL.out; omega) (by first | omega | (simp; omega) | (simp; done)) ?_; intro v5 w5 hown5 hg5 hb5 hat5)
                    | (go_at_call 51; refine (ref0_CopyPairs _ k _ (l.take k) _ ((HR9.out.up (by (repeat (first | (with_reducible exact Below.refl _ _) | (with_reducible assumption) | (with_reducible apply bel_alloc) | (with_reducible apply bel_drew) | (with_reducible apply bel_drewN) | (with_reducible refine bel_trans ?_ (by with_reducible assumption)) | (with_reducible refine bel_trans ?_ (HF.out _)) | (with_reducible refine bel_set ?_ (by simp) _) | (with_reducible refine bel_set ?_ (by simp; omega) _) | (with_reducible refine bel_set ?_ (by omega) _))))).take hkn) (by omega)).mono ?_; rintro e9 w3 ⟨v3, rfl, hown3, hb3⟩; have hz3 : w.heap.size + 2 ≤ w3.heap.size := (by have hq := hb3.size; (try simp at hq); omega); have hz4 : wy.heap.size ≤ w3.heap.size := (by have hq := hb3.size; (try simp at hq); omega); have hc3 := fun o => (bcell hb3).1 (w.heap.size + 1) o (by first | (simp; done) | (simp; omega) | omega)))
                all_goals
                  have hb5w : Below wy.heap.size wy w5 := by (refine Below.trans ?_ hb5; (repeat (first | (with_reducible exact Below.refl _ _) | (with_reducible assumption) | (with_reducible apply bel_alloc) | (with_reducible apply bel_drew) | (with_reducible apply bel_drewN) | (with_reducible refine bel_trans ?_ (by with_reducible assumption)) | (with_reducible refine bel_trans ?_ (HF.out _)) | (with_reducible refine bel_set ?_ (by simp) _) | (with_reducible refine bel_set ?_ (by simp; omega) _) | (with_reducible refine bel_set ?_ (by omega) _))))
                  have HO5 := Lib.hid hown5
                  have hT5 := HT.out.up hb5w
                  have hX5 := HX.out.up hb5w
                  have HT5 := Lib.hid hT5
                  have HX5 := Lib.hid hX5
                  have hbl5 := hT5.blk.lt
                  have hxl5 := hX5.lt
                  clear hown3 hown5 hz3 hz4 hc3 t_0 t_1 x_0 x_1 x_2 x_3 hb5
                  have t_0 := (hT5.blk.box).2 0 _ rfl; have t_1 := (hT5.blk.box).2 1 _ rfl
                  have x_0 := (hX5.box).2 0 _ rfl; have x_1 := (hX5.box).2 1 _ rfl; have x_2 := (hX5.box).2 2 _ rfl; have x_3 := (hX5.box).2 3 _ rfl
                  clear hT5 hX5
                  go_wp2_with (at_builtin; refine wpList_appRP rfl (.tmp 147) (.tmp 151) rfl rfl wy.heap.size v5 (l.take k ++ [(⟨x.k, x.v⟩ : PairD)]) rfl HO5.out _ _ _ (l.drop k) (by first | rfl | (simp [Act.eval])) (by first | exact HRZ.out _ _ | exact HRM.out _ _) (by have := HTL.out; rw [List.length_append]; simp; omega) hb5w.size ?_; intro v6 w6 hown6 hg6 hb6 hat6; obtain ⟨A6, n6, c6, rfl, _⟩ := hown6.named (by have := HTL.out; have := HN.out; simp; omega); have hb6w := hb5w.trans hb6; have hT6 := HT.out.up hb6w; have f6 := hT6.blk.frozen; have b6 := hT6.blk.box.2 0 _ rfl)
                  have HO6 := Lib.hid hown6
                  have e6 : l.take k ++ [(⟨x.k, x.v⟩ : PairD)] ++ l.drop k = setP l x := HE.out
                  go_meet
                  rw [e6] at HO6
                  exact ⟨_, _, HT.out.freshP hb6w HO6.out,  (HRB.out.up hb6w).far (p := ⟨by_, 0, none⟩) (by dsimp only; omega) _, by (repeat (first | (with_reducible exact Below.refl _ _) | (with_reducible assumption) | (with_reducible apply bel_alloc) | (with_reducible apply bel_drew) | (with_reducible apply bel_drewN) | (with_reducible refine bel_trans ?_ (by with_reducible assumption)) | (with_reducible refine bel_trans ?_ (HF.out _)) | ((with_reducible refine bel_set3 ?_ ?_); rotate_left; omega)))⟩
              · go_wp2_with fail
                go_region_held3 (fun Y => Y.cell? ⟨by_, 0, none⟩ = some (.slice (some a9) n cp) ∧ Y.cell? ⟨w.heap.size + 1, 2, none⟩ = some (.string x.k) ∧ Y.cell? ⟨w.heap.size + 1, 3, none⟩ = some (.string x.v))
                  ((refine HCY.out _ ?_; (first | (((repeat (first | (with_reducible exact Below.refl _ _) | (with_reducible assumption) | (with_reducible apply bel_alloc) | (with_reducible apply bel_drew) | (with_reducible apply bel_drewN) | (with_reducible refine bel_trans ?_ (by with_reducible assumption)) | (with_reducible refine bel_trans ?_ (HF.out _)) | ((with_reducible refine bel_set3 ?_ ?_); rotate_left; omega)))); done) | ((refine Below.trans ?_ hb5); ((repeat (first | (with_reducible exact Below.refl _ _) | (with_reducible assumption) | (with_reducible apply bel_alloc) | (with_reducible apply bel_drew) | (with_reducible apply bel_drewN) | (with_reducible refine bel_trans ?_ (by with_reducible assumption)) | (with_reducible refine bel_trans ?_ (HF.out _)) | ((with_reducible refine bel_set3 ?_ ?_); rotate_left; omega)))); done))))
                  (first
                    | (refine step_appP rfl (.tmp 139) (.tmp 145) rfl rfl wy.heap.size v3 (l.take k) (by simp [Act.eval, Act.put]) (own_mono (own_up hown3 (by (repeat (first | (with_reducible exact Below.refl _ _) | (with_reducible assumption) | (with_reducible apply bel_alloc) | (with_reducible apply bel_drew) | (with_reducible apply bel_drewN) | (with_reducible refine bel_trans ?_ (by with_reducible assumption)) | (with_reducible refine bel_trans ?_ (HF.out _)) | (with_reducible refine bel_set ?_ (by simp) _) | (with_reducible refine bel_set ?_ (by simp; omega) _) | (with_reducible refine bel_set ?_ (by omega) _))))) (by first | omega | (simp; omega) | (simp; done))) _ 0 1 1 [(⟨x.k, x.v⟩ : PairD)] (by simp [Act.eval, Act.put]; rfl) rfl (box_P (by first | exact BoxR.new _ _ _ | exact BoxR.up (w := (wy.alloc (.cells #[.string x.k, .string x.v] 91)).drew) (BoxR.new wy [.string x.k, .string x.v] 91) hb3)) (by have := HTL.out; omega) (by first | omega | (simp; omega) | (simp; done)) ?_; intro v5 w5 hown5 hg5 hb5 hat5)
                    | (go_at_call 51; refine (ref0_CopyPairs _ k _ (l.take k) _ ((HR9.out.up (by (repeat (first | (with_reducible exact Below.refl _ _) | (with_reducible assumption) | (with_reducible apply bel_alloc) | (with_reducible apply bel_drew) | (with_reducible apply bel_drewN) | (with_reducible refine bel_trans ?_ (by with_reducible assumption)) | (with_reducible refine bel_trans ?_ (HF.out _)) | (with_reducible refine bel_set ?_ (by simp) _) | (with_reducible refine bel_set ?_ (by simp; omega) _) | (with_reducible refine bel_set ?_ (by omega) _))))).take hkn) (by omega)).mono ?_; rintro e9 w3 ⟨v3, rfl, hown3, hb3⟩; have hz3 : w.heap.size + 2 ≤ w3.heap.size := (by have hq := hb3.size; (try simp at hq); omega); have hz4 : wy.heap.size ≤ w3.heap.size := (by have hq := hb3.size; (try simp at hq); omega); have hc3 := fun o => (bcell hb3).1 (w.heap.size + 1) o (by first | (simp; done) | (simp; omega) | omega)))
                all_goals
                  have hb5w : Below wy.heap.size wy w5 := by (refine Below.trans ?_ hb5; (repeat (first | (with_reducible exact Below.refl _ _) | (with_reducible assumption) | (with_reducible apply bel_alloc) | (with_reducible apply bel_drew) | (with_reducible apply bel_drewN) | (with_reducible refine bel_trans ?_ (by with_reducible assumption)) | (with_reducible refine bel_trans ?_ (HF.out _)) | (with_reducible refine bel_set ?_ (by simp) _) | (with_reducible refine bel_set ?_ (by simp; omega) _) | (with_reducible refine bel_set ?_ (by omega) _))))
                  have HO5 := Lib.hid hown5
                  have hT5 := HT.out.up hb5w
                  have hX5 := HX.out.up hb5w
                  have HT5 := Lib.hid hT5
                  have HX5 := Lib.hid hX5
                  have hbl5 := hT5.blk.lt
                  have hxl5 := hX5.lt
                  clear hown3 hown5 hz3 hz4 hc3 t_0 t_1 x_0 x_1 x_2 x_3 hb5
                  have t_0 := (hT5.blk.box).2 0 _ rfl; have t_1 := (hT5.blk.box).2 1 _ rfl
                  have x_0 := (hX5.box).2 0 _ rfl; have x_1 := (hX5.box).2 1 _ rfl; have x_2 := (hX5.box).2 2 _ rfl; have x_3 := (hX5.box).2 3 _ rfl
                  clear hT5 hX5
                  go_wp2_with (at_builtin; refine wpList_appRP rfl (.tmp 147) (.tmp 151) rfl rfl wy.heap.size v5 (l.take k ++ [(⟨x.k, x.v⟩ : PairD)]) rfl HO5.out _ _ _ (l.drop k) (by first | rfl | (simp [Act.eval])) (by first | exact HRZ.out _ _ | exact HRM.out _ _) (by have := HTL.out; rw [List.length_append]; simp; omega) hb5w.size ?_; intro v6 w6 hown6 hg6 hb6 hat6; obtain ⟨A6, n6, c6, rfl, _⟩ := hown6.named (by have := HTL.out; have := HN.out; simp; omega); have hb6w := hb5w.trans hb6; have hT6 := HT.out.up hb6w; have f6 := hT6.blk.frozen; have b6 := hT6.blk.box.2 0 _ rfl)
                  have HO6 := Lib.hid hown6
                  have e6 : l.take k ++ [(⟨x.k, x.v⟩ : PairD)] ++ l.drop k = setP l x := HE.out
                  go_meet
                  rw [e6] at HO6
                  exact ⟨_, _, HT.out.freshP hb6w HO6.out,  (HRB.out.up hb6w).far (p := ⟨by_, 0, none⟩) (by dsimp only; omega) _, by (repeat (first | (with_reducible exact Below.refl _ _) | (with_reducible assumption) | (with_reducible apply bel_alloc) | (with_reducible apply bel_drew) | (with_reducible apply bel_drewN) | (with_reducible refine bel_trans ?_ (by with_reducible assumption)) | (with_reducible refine bel_trans ?_ (HF.out _)) | ((with_reducible refine bel_set3 ?_ ?_); rotate_left; omega)))⟩
      · have HV : x.v.size = 0 := by have := HYV.out; simpa using this.symm
        (try simp only [Bool.not_false, Bool.not_true] at hv1)
        as_aux_lemma =>
          go_wp2_with fail
          go_meet
          rw [show setP l x = l by (unfold setP; rw [if_pos HV, if_neg (by rw [HTh.out]; simp)])]
          exact ⟨_, _, HT.out, HRB.out, hbw⟩
    · cases yv
      · have HV : ¬ x.v.size = 0 := by have := HYV.out; simpa using this.symm
        (try simp only [Bool.not_false, Bool.not_true] at hv1)
        as_aux_lemma =>
          obtain ⟨hkl, hkk⟩ := khasP_lt HK.out HTh.out
          rw [HN.out] at hkl
          have e : setP l x = l.set k ⟨(pth l k).k, x.v⟩ := by unfold setP; rw [if_neg HV, if_pos HTh.out, HK.out, hkk]
          have HE := Lib.hid e
          clear e
          rcases own_shape ho9 with ⟨_, h0⟩ | ⟨g8, c8, e8, hgC8, hcc8⟩
          · omega
          injection e8 with e81 e82 e83
          subst e81; subst e83
          obtain ⟨g1, f1⟩ := own_get ho9
          have c1 : wy.cell? ⟨g8, k * 2 + 1, none⟩ = some (.string (pth l k).v) := g1 _ _ (by rw [flat_at encP_len l k 1 (by rw [HN.out]; exact hkl) (by omega)]; rfl)
          have hgl := (own_lt ho9 g8 rfl).2
          have hT9 := HT.out.putP (v := x.v) HN.out hkl
          have hne2 : w.heap.size + 2 ≠ g8 := by omega
          clear g1 ho9
          go_wp2_with fail
          go_meet
          rw [HE.out]
          exact ⟨_, _, hT9, HRB.out.far (p := ⟨g8, k * 2 + 1, none⟩) hne2 _, by (repeat (first | (with_reducible exact Below.refl _ _) | (with_reducible assumption) | (with_reducible apply bel_alloc) | (with_reducible apply bel_drew) | (with_reducible apply bel_drewN) | (with_reducible refine bel_trans ?_ (by with_reducible assumption)) | (with_reducible refine bel_trans ?_ (HF.out _)) | ((with_reducible refine bel_set3 ?_ ?_); rotate_left; omega)))⟩
      · have HV : x.v.size = 0 := by have := HYV.out; simpa using this.symm
        (try simp only [Bool.not_false, Bool.not_true] at hv1)
        as_aux_lemma =>
          obtain ⟨hkl, hkk⟩ := khasP_lt HK.out HTh.out
          rw [HN.out] at hkl
          have e : l.take k ++ l.drop (k + 1) = setP l x := by unfold setP; rw [if_pos HV, if_pos HTh.out, HK.out]
          have HE := Lib.hid e
          clear e
          have HTL : Hid ((l.take k).length = k) := Lib.hid (by rw [List.length_take, HN.out]; omega)
          have HR9 : Hid (PairsR wy Ap n l) := Lib.hid hpr9
          rcases own_shape ho9 with ⟨_, h0⟩ | ⟨g8, c8, e8, hgC8, hcc8⟩
          · omega
          injection e8 with e81 e82 e83
          subst e81; subst e83
          clear hpr9 ho9
          have hkc : k ≤ cp := by omega
          go_wp2_with fail
          refine (ref0_CopyPairs _ k _ (l.take k) _ (HR9.out.take (by omega)) (by omega)).mono ?_
          rintro e9 w5 ⟨v5, rfl, hown5, hb5w⟩
          have HO5 := Lib.hid hown5
          have hT5 := HT.out.up hb5w
          have HT5 := Lib.hid hT5
          have hbl5 := hT5.blk.lt
          clear t_0 t_1 hown5
          have t_0 := (hT5.blk.box).2 0 _ rfl; have t_1 := (hT5.blk.box).2 1 _ rfl
          clear hT5
          rcases Nat.lt_or_ge (k + 1) n with hlt | hge
          · have HDC := Lib.hid (drop_P (HR9.out.up hb5w) hlt)
            have hci : ¬ (cp = k + 1) := by omega
            have hci2 : k + 1 ≤ cp := by omega
            have hk1 : (0 : Int) ≤ (k : Int) + 1 := by omega
            have hkt : ((k : Int) + 1).toNat = k + 1 := by omega
            go_wp2_with (at_builtin; refine wpList_appP rfl (.tmp 114) (.tmp 119) rfl rfl wy.heap.size v5 (l.take k) rfl HO5.out g8 (0 + (k + 1) * 2) (n - (k + 1)) (cp - (k + 1)) (l.drop (k + 1)) (by first | rfl | (simp [Act.eval])) (by rw [List.length_drop, HN.out]) HDC.out (by have := HTL.out; omega) hb5w.size ?_; intro v6 w6 hown6 hg6 hb6 hat6; obtain ⟨A6, n6, c6, rfl, _⟩ := hown6.named (by have := HTL.out; have := HN.out; simp; omega); have hb6w := hb5w.trans hb6; have hT6 := HT.out.up hb6w; have f6 := hT6.blk.frozen; have b6 := hT6.blk.box.2 0 _ rfl)
            go_meet
            have HO6 := Lib.hid hown6
            rw [HE.out] at HO6
            exact ⟨_, _, HT.out.freshP hb6w HO6.out, (HRB.out.up hb6w).far (p := ⟨by_, 0, none⟩) (by dsimp only; omega) _, by (repeat (first | (with_reducible exact Below.refl _ _) | (with_reducible assumption) | (with_reducible apply bel_alloc) | (with_reducible apply bel_drew) | (with_reducible apply bel_drewN) | (with_reducible refine bel_trans ?_ (by with_reducible assumption)) | (with_reducible refine bel_trans ?_ (HF.out _)) | ((with_reducible refine bel_set3 ?_ ?_); rotate_left; omega)))⟩
          · have hkn1 : n - (k + 1) = 0 := by omega
            have hdrop : l.drop (k + 1) = [] := List.drop_of_length_le (by rw [HN.out]; exact hge)
            have HRZ : Hid (∀ (W : World) (A' : Option Addr), PairsR W A' 0 (l.drop (k + 1))) := Lib.hid (fun W A' => by rw [hdrop]; exact ⟨rfl, by simp [flat], by omega, fun h => absurd h (by omega)⟩)
            have HRM : Hid (∀ (W : World) (A' : Option Addr), PairsR W A' (n - (k + 1)) (l.drop (k + 1))) := Lib.hid (fun W A' => by rw [hkn1]; exact HRZ.out W A')
            have hci2 : k + 1 ≤ cp := by omega
            have hk1 : (0 : Int) ≤ (k : Int) + 1 := by omega
            have hkt : ((k : Int) + 1).toNat = k + 1 := by omega
            clear hdrop hge
            by_cases hcq : cp = k + 1
            case' pos => subst hcq
            case' neg => have hcq2 : ¬ (k + 1 = cp) := fun h => hcq h.symm
            all_goals
              go_wp2_with (at_builtin; refine wpList_appRP rfl (.tmp 114) (.tmp 119) rfl rfl wy.heap.size v5 (l.take k) rfl HO5.out _ _ _ (l.drop (k + 1)) (by first | rfl | (simp [Act.eval])) (by first | exact HRZ.out _ _ | exact HRM.out _ _) (by have := HTL.out; omega) hb5w.size ?_; intro v6 w6 hown6 hg6 hb6 hat6; obtain ⟨A6, n6, c6, rfl, _⟩ := hown6.named (by have := HTL.out; have := HN.out; simp; omega); have hb6w := hb5w.trans hb6; have hT6 := HT.out.up hb6w; have f6 := hT6.blk.frozen; have b6 := hT6.blk.box.2 0 _ rfl)
              go_meet
              have HO6 := Lib.hid hown6
              rw [HE.out] at HO6
              exact ⟨_, _, HT.out.freshP hb6w HO6.out, (HRB.out.up hb6w).far (p := ⟨by_, 0, none⟩) (by dsimp only; omega) _, by (repeat (first | (with_reducible exact Below.refl _ _) | (with_reducible assumption) | (with_reducible apply bel_alloc) | (with_reducible apply bel_drew) | (with_reducible apply bel_drewN) | (with_reducible refine bel_trans ?_ (by with_reducible assumption)) | (with_reducible refine bel_trans ?_ (HF.out _)) | ((with_reducible refine bel_set3 ?_ ?_); rotate_left; omega)))⟩
  case rest =>
  obtain ⟨vp, va, ht, hr, hbw⟩ := hcut
  have hM9 := HM.out.set HO.out
  obtain ⟨A3, c3, rfl, _⟩ := ht.p.pairs (by have := hM9.1.1; omega)
  obtain ⟨A4, c4, rfl, _⟩ := ht.a.accts (by have := hM9.2.1; omega)
  obtain ⟨n3, hn3⟩ : ∃ n3, n3 = (setP l x).length := ⟨_, rfl⟩
  obtain ⟨n4, hn4⟩ : ∃ n4, n4 = (setA q x).length := ⟨_, rfl⟩
  rw [← hn3, ← hn4] at ht
  have hnp : (Value.slice A3 n3 c3).ownBlock ≠ some (w.heap.size + 2) := fun e => (by have := (own_lt ht.p _ e).1; omega)
  have hna : (Value.slice A4 n4 c4).ownBlock ≠ some (w.heap.size + 2) := fun e => (by have := (own_lt ht.a _ e).1; omega)
  have HT := Lib.hid ht
  have HNP := Lib.hid hnp
  have HNA := Lib.hid hna
  have t_0 := (ht.blk.box).2 0 _ rfl; have t_1 := (ht.blk.box).2 1 _ rfl
  have r0 := hr.box.2 0 _ rfl
  have r1 := hr.box.2 1 _ rfl
  have rf := hr.frozen
  have hR4 := (hr.set_ 0 (.slice A3 n3 c3)).set_ 1 (.slice A4 n4 c4)
  have s0 := hR4.box.2 0 _ rfl
  have s1 := hR4.box.2 1 _ rfl
  clear ht hnp hna hR4 hr hM9 hn3 hn4
  go_wp2_with fail
  exact bodyPost_ret (v := .tuple #[.agg #[.slice A3 n3 c3, .slice A4 n4 c4], .bool true]) (by simp [results, Tryz.results57, go_sem, s0, s1]) rfl ⟨_, _, rfl, OwnP.mono (own_setD (own_setD HT.out.p HNP.out _) HNP.out _) (by omega), OwnA.mono (own_setD (own_setD HT.out.a HNA.out _) HNA.out _) (by omega), HT.out.d, by (repeat (first | (with_reducible exact Below.refl _ _) | (with_reducible assumption) | (with_reducible apply bel_alloc) | (with_reducible apply bel_drew) | (with_reducible apply bel_drewN) | (with_reducible refine bel_trans ?_ (by with_reducible assumption)) | (with_reducible refine bel_trans ?_ (HF.out _)) | ((with_reducible refine bel_set3 ?_ ?_); rotate_left; omega)))⟩
end Go.Proofs.YtbakkpabiknlmaaGreat
