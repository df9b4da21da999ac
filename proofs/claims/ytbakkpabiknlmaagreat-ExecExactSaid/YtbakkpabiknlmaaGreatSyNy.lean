/- Tables: Apply, at the reference, where it does nothing. -/
import Derived.Test.YtbakkpabiknlmaaGreatSyNw0
namespace Go.Proofs.YtbakkpabiknlmaaGreat
open Go.RowKit
set_option linter.unusedSimpArgs false
set_option linter.unusedVariables false

set_option maxRecDepth 100000 in
set_option maxHeartbeats 8000000 in
theorem ref22_Apply_no (A : Option Addr) (n c : Nat) (l : List PairD) (B : Option Addr) (m d : Nat) (q : List AcctD) (x : TxD) (w : World) (hl : PairsR w A n l) (hq : AcctsR w B m q) (hM : MayT l q) (hno : ¬ OkT l q x) :
    Calls Tryz.prog 57 #[.agg #[.slice A n c, .slice B m d], .agg #[.int .i64 x.se, .int .i64 x.sq, .string x.k, .string x.v]] w fun e w' => e = .returned (.tuple #[.agg #[.slice A n c, .slice B m d], .bool false]) ∧ Below w.heap.size w w' := by
  have HL := Lib.hid hl
  have HQ := Lib.hid hq
  have HN := Lib.hid hl.1
  have HMl := Lib.hid hq.1
  have hn : n ≤ 4096 := by rw [← hl.1]; exact hM.1.1
  have hm : m ≤ 4096 := by rw [← hq.1]; exact hM.2.1
  have HM := Lib.hid hM
  have HNO := Lib.hid hno
  obtain ⟨k, hk⟩ : ∃ k, kposP l x.k = k := ⟨_, rfl⟩
  obtain ⟨i, hi⟩ : ∃ i, kposA q x.se = i := ⟨_, rfl⟩
  have HK := Lib.hid hk
  have HI := Lib.hid hi
  obtain ⟨la, hla⟩ : ∃ la, lastA q x.se = la := ⟨_, rfl⟩
  have HLA := Lib.hid hla
  obtain ⟨ya, hya⟩ : ∃ y, khasA q x.se = y := ⟨_, rfl⟩
  obtain ⟨yp, hyp⟩ : ∃ y, khasP l x.k = y := ⟨_, rfl⟩
  have HHas := Lib.hid hya
  have HTh := Lib.hid hyp
  clear hl hq hM hno hk hi hla hya hyp
  cases hty : txS x
  · have HTY := Lib.hid hty
    clear hty
    go_enter Tryz.func57, Tryz.ntmps57
    go_wp2_with fail
    refine (ref4_Tx x false _ HTY.out).mono ?_
    rintro e w1 ⟨rfl, hb1⟩
    have hz_w1 : w.heap.size + 3 ≤ w1.heap.size := (by have hq := (hb1).size; (try simp at hq); omega); have hc0_w1 := fun o => (bcell hb1).1 (w.heap.size) o (by first | (simp; done) | (simp; omega) | omega); have hc1_w1 := fun o => (bcell hb1).1 (w.heap.size + 1) o (by first | (simp; done) | (simp; omega) | omega); have hc2_w1 := fun o => (bcell hb1).1 (w.heap.size + 2) o (by first | (simp; done) | (simp; omega) | omega); have hf0_w1 := fun o => (bcell hb1).2 (w.heap.size) o (by first | (simp; done) | (simp; omega) | omega); have hf1_w1 := fun o => (bcell hb1).2 (w.heap.size + 1) o (by first | (simp; done) | (simp; omega) | omega); have hf2_w1 := fun o => (bcell hb1).2 (w.heap.size + 2) o (by first | (simp; done) | (simp; omega) | omega)
    go_wp2_with fail
    exact bodyPost_ret (v := .tuple #[.agg #[.slice A n c, .slice B m d], .bool false]) (by simp [results, Tryz.results57, go_sem, hc0_w1, hc1_w1, hc2_w1]) rfl ⟨rfl, by (repeat (first | (with_reducible exact Below.refl _ _) | (with_reducible assumption) | (with_reducible apply bel_alloc) | (with_reducible apply bel_drew) | (with_reducible apply bel_drewN) | (with_reducible refine bel_trans ?_ (by with_reducible assumption)) | (with_reducible refine bel_trans ?_ (HF.out _)) | ((with_reducible refine bel_set3 ?_ ?_); rotate_left; omega)))⟩
  have HTY := Lib.hid hty
  have hlab : 0 ≤ la ∧ la ≤ 1099511627776 := by
    cases ya
    · have := lastA_no HHas.out
      rw [HLA.out] at this; omega
    · obtain ⟨h1, h2⟩ := khasA_lt HI.out HHas.out
      have h3 := (HM.out.2.2 i h1).1
      unfold acctS at h3
      rw [Bool.and_eq_true] at h3
      have h4 := idS_iff.1 h3.2
      have : la = (ath q i).sq := by rw [← HLA.out]; unfold lastA; rw [if_pos HHas.out, HI.out]
      omega
  obtain ⟨hlab1, hlab2⟩ := hlab
  go_enter Tryz.func57, Tryz.ntmps57
  go_wp2_with fail
  refine (ref4_Tx x true _ HTY.out).mono ?_
  rintro e w1 ⟨rfl, hb1⟩
  have hbw1 : Below w.heap.size w w1 := by (repeat (first | (with_reducible exact Below.refl _ _) | (with_reducible assumption) | (with_reducible apply bel_alloc) | (with_reducible apply bel_drew) | (with_reducible apply bel_drewN) | (with_reducible refine bel_trans ?_ (by with_reducible assumption)) | (with_reducible refine bel_trans ?_ (HF.out _)) | ((with_reducible refine bel_set3 ?_ ?_); rotate_left; omega)))
  have hX1 : Blk w1 (w.heap.size + 1) 85 [.int .i64 x.se, .int .i64 x.sq, .string x.k, .string x.v] := Blk.up (w := ((w.alloc (.cells #[.slice A n c, .slice B m d] 25)).alloc (.cells #[.int .i64 x.se, .int .i64 x.sq, .string x.k, .string x.v] 85)).alloc (.cells #[.slice none 0 0, .slice none 0 0] 25)) (by have q := (Blk.new (w.alloc (.cells #[.slice A n c, .slice B m d] 25)) 85 [.int .i64 x.se, .int .i64 x.sq, .string x.k, .string x.v]).up (w' := ((w.alloc (.cells #[.slice A n c, .slice B m d] 25)).alloc (.cells #[.int .i64 x.se, .int .i64 x.sq, .string x.k, .string x.v] 85)).alloc (.cells #[.slice none 0 0, .slice none 0 0] 25)) (by (repeat (first | (with_reducible exact Below.refl _ _) | (with_reducible assumption) | (with_reducible apply bel_alloc) | (with_reducible apply bel_drew) | (with_reducible apply bel_drewN) | (with_reducible refine bel_trans ?_ (by with_reducible assumption)) | (with_reducible refine bel_trans ?_ (HF.out _)) | (with_reducible refine bel_set ?_ (by simp) _) | (with_reducible refine bel_set ?_ (by simp; omega) _) | (with_reducible refine bel_set ?_ (by omega) _)))); simpa using q) hb1
  have hR1 : Blk w1 (w.heap.size + 2) 25 [.slice none 0 0, .slice none 0 0] := Blk.up (w := ((w.alloc (.cells #[.slice A n c, .slice B m d] 25)).alloc (.cells #[.int .i64 x.se, .int .i64 x.sq, .string x.k, .string x.v] 85)).alloc (.cells #[.slice none 0 0, .slice none 0 0] 25)) (by have q := Blk.new ((w.alloc (.cells #[.slice A n c, .slice B m d] 25)).alloc (.cells #[.int .i64 x.se, .int .i64 x.sq, .string x.k, .string x.v] 85)) 25 [.slice none 0 0, .slice none 0 0]; simpa using q) hb1
  have hT1 : Blk w1 w.heap.size 25 [.slice A n c, .slice B m d] := Blk.up (w := ((w.alloc (.cells #[.slice A n c, .slice B m d] 25)).alloc (.cells #[.int .i64 x.se, .int .i64 x.sq, .string x.k, .string x.v] 85)).alloc (.cells #[.slice none 0 0, .slice none 0 0] 25)) ((Blk.new w 25 [.slice A n c, .slice B m d]).up (by (repeat (first | (with_reducible exact Below.refl _ _) | (with_reducible assumption) | (with_reducible apply bel_alloc) | (with_reducible apply bel_drew) | (with_reducible apply bel_drewN) | (with_reducible refine bel_trans ?_ (by with_reducible assumption)) | (with_reducible refine bel_trans ?_ (HF.out _)) | (with_reducible refine bel_set ?_ (by simp) _) | (with_reducible refine bel_set ?_ (by simp; omega) _) | (with_reducible refine bel_set ?_ (by omega) _))))) hb1
  clear hb1 hty
  have t_0 := (hT1.box).2 0 _ rfl; have t_1 := (hT1.box).2 1 _ rfl
  have x_0 := (hX1.box).2 0 _ rfl; have x_1 := (hX1.box).2 1 _ rfl; have x_2 := (hX1.box).2 2 _ rfl; have x_3 := (hX1.box).2 3 _ rfl
  go_wp2_with fail
  refine (refs_A B m d q x.se i ya _ (HQ.out.up hbw1) HI.out HHas.out).mono ?_
  rintro e w2 ⟨rfl, hb2⟩
  have hbw2 := bel_trans hbw1 hb2
  have hX2 := hX1.up hb2
  have hR2 := hR1.up hb2
  have hT2 := hT1.up hb2
  clear t_0 t_1 x_0 x_1 x_2 x_3 hX1 hR1 hT1 hb2
  have t_0 := (hT2.box).2 0 _ rfl; have t_1 := (hT2.box).2 1 _ rfl
  have x_0 := (hX2.box).2 0 _ rfl; have x_1 := (hX2.box).2 1 _ rfl; have x_2 := (hX2.box).2 2 _ rfl; have x_3 := (hX2.box).2 3 _ rfl
  go_wp2_with fail
  refine (refs_P A n c l x.k k yp _ (HL.out.up hbw2) HK.out HTh.out).mono ?_
  rintro e w3 ⟨rfl, hb3⟩
  have hbw3 := bel_trans hbw2 hb3
  have hX3 := hX2.up hb3
  have hR3 := hR2.up hb3
  have hT3 := hT2.up hb3
  clear t_0 t_1 x_0 x_1 x_2 x_3 hX2 hR2 hT2 hb3 hbw1 hbw2
  have t_0 := (hT3.box).2 0 _ rfl; have t_1 := (hT3.box).2 1 _ rfl
  have x_0 := (hX3.box).2 0 _ rfl; have x_1 := (hX3.box).2 1 _ rfl; have x_2 := (hX3.box).2 2 _ rfl; have x_3 := (hX3.box).2 3 _ rfl
  have r0 := hR3.box.2 0 _ rfl
  have r1 := hR3.box.2 1 _ rfl
  have rf := hR3.frozen
  have hR4 := (hR3.set_ 0 (.slice A n c)).set_ 1 (.slice B m d)
  have s0 := hR4.box.2 0 _ rfl
  have s1 := hR4.box.2 1 _ rfl
  clear hX3 hR3 hT3 hR4
  have nil1 : ¬ x.v.size = 0 → (x.v.toList != []) = true ∧ (x.v.toList == []) = false ∧ ¬ x.v.toList = [] := fun h => by rw [bne_iff_ne, beq_eq_false_iff_ne]; exact ⟨fun g => h (toList_nil.1 g), fun g => h (toList_nil.1 g), fun g => h (toList_nil.1 g)⟩
  have NIL := Lib.hid nil1
  clear nil1
  cases ya
  · have el0 : la = 0 := by rw [← HLA.out]; exact lastA_no HHas.out
    subst el0
    by_cases hsq : x.sq = 1
    · have hs2 : (x.sq != 1) = false := by simpa using hsq
      have HSQ : Hid (x.sq = lastA q x.se + 1) := Lib.hid (by rw [HLA.out]; exact hsq)
      clear hsq
      by_cases hmf : 4096 ≤ m
      · have hmd : decide ((4096 : Int) ≤ (m : Int)) = true := by simp; omega
        go_wp2_with fail
        exact bodyPost_ret (v := .tuple #[.agg #[.slice A n c, .slice B m d], .bool false]) (by simp [results, Tryz.results57, go_sem, s0, s1]) rfl ⟨rfl, by (repeat (first | (with_reducible exact Below.refl _ _) | (with_reducible assumption) | (with_reducible apply bel_alloc) | (with_reducible apply bel_drew) | (with_reducible apply bel_drewN) | (with_reducible refine bel_trans ?_ (by with_reducible assumption)) | (with_reducible refine bel_trans ?_ (HF.out _)) | ((with_reducible refine bel_set3 ?_ ?_); rotate_left; omega)))⟩
      · have hmd : decide ((4096 : Int) ≤ (m : Int)) = false := by simp; omega
        by_cases hv : yp = false ∧ ¬ x.v.size = 0 ∧ 4096 ≤ n
        · obtain ⟨rfl, hv1, hnf⟩ := hv
          obtain ⟨hv2, hv3, hv4⟩ := NIL.out hv1
          have hnd : decide ((4096 : Int) ≤ (n : Int)) = true := by simp; omega
          clear hv1
          go_wp2_with fail
          exact bodyPost_ret (v := .tuple #[.agg #[.slice A n c, .slice B m d], .bool false]) (by simp [results, Tryz.results57, go_sem, s0, s1]) rfl ⟨rfl, by (repeat (first | (with_reducible exact Below.refl _ _) | (with_reducible assumption) | (with_reducible apply bel_alloc) | (with_reducible apply bel_drew) | (with_reducible apply bel_drewN) | (with_reducible refine bel_trans ?_ (by with_reducible assumption)) | (with_reducible refine bel_trans ?_ (HF.out _)) | ((with_reducible refine bel_set3 ?_ ?_); rotate_left; omega)))⟩
        · exfalso
          refine HNO.out ⟨HTY.out, HSQ.out, fun h => ?_, fun h => ?_⟩
          · have := HMl.out; omega
          · rw [HTh.out, HN.out] at h; exact hv h
    · have hs2 : (x.sq != 1) = true := by simpa using hsq
      have hs3 : (x.sq == 1) = false := by simpa using hsq
      clear hsq
      go_wp2_with fail
      exact bodyPost_ret (v := .tuple #[.agg #[.slice A n c, .slice B m d], .bool false]) (by simp [results, Tryz.results57, go_sem, s0, s1]) rfl ⟨rfl, by (repeat (first | (with_reducible exact Below.refl _ _) | (with_reducible assumption) | (with_reducible apply bel_alloc) | (with_reducible apply bel_drew) | (with_reducible apply bel_drewN) | (with_reducible refine bel_trans ?_ (by with_reducible assumption)) | (with_reducible refine bel_trans ?_ (HF.out _)) | ((with_reducible refine bel_set3 ?_ ?_); rotate_left; omega)))⟩
  · obtain ⟨him, hse⟩ := khasA_lt HI.out HHas.out
    rw [HMl.out] at him
    obtain ⟨bq, oq, rfl, hbq, hcq⟩ := (HQ.out.up hbw3).at (by omega)
    obtain ⟨_, cq1⟩ := hcq i him
    have elq : (ath q i).sq = la := by rw [← HLA.out]; unfold lastA; rw [if_pos HHas.out, HI.out]
    rw [elq] at cq1
    clear hcq elq hse
    by_cases hsq : x.sq = la + 1
    · have hs2 : (x.sq != la + 1) = false := by simpa using hsq
      have HSQ : Hid (x.sq = lastA q x.se + 1) := Lib.hid (by rw [HLA.out]; exact hsq)
      clear hsq
      by_cases hv : yp = false ∧ ¬ x.v.size = 0 ∧ 4096 ≤ n
      · obtain ⟨rfl, hv1, hnf⟩ := hv
        obtain ⟨hv2, hv3, hv4⟩ := NIL.out hv1
        have hnd : decide ((4096 : Int) ≤ (n : Int)) = true := by simp; omega
        clear hv1
        go_wp2_with fail
        exact bodyPost_ret (v := .tuple #[.agg #[.slice A n c, .slice (some ⟨bq, oq, none⟩) m d], .bool false]) (by simp [results, Tryz.results57, go_sem, s0, s1]) rfl ⟨rfl, by (repeat (first | (with_reducible exact Below.refl _ _) | (with_reducible assumption) | (with_reducible apply bel_alloc) | (with_reducible apply bel_drew) | (with_reducible apply bel_drewN) | (with_reducible refine bel_trans ?_ (by with_reducible assumption)) | (with_reducible refine bel_trans ?_ (HF.out _)) | ((with_reducible refine bel_set3 ?_ ?_); rotate_left; omega)))⟩
      · exfalso
        refine HNO.out ⟨HTY.out, HSQ.out, fun h => ?_, fun h => ?_⟩
        · rw [HHas.out] at h; cases h.1
        · rw [HTh.out, HN.out] at h; exact hv h
    · have hs2 : (x.sq != la + 1) = true := by simpa using hsq
      have hs3 : (x.sq == la + 1) = false := by simpa using hsq
      clear hsq
      go_wp2_with fail
      exact bodyPost_ret (v := .tuple #[.agg #[.slice A n c, .slice (some ⟨bq, oq, none⟩) m d], .bool false]) (by simp [results, Tryz.results57, go_sem, s0, s1]) rfl ⟨rfl, by (repeat (first | (with_reducible exact Below.refl _ _) | (with_reducible assumption) | (with_reducible apply bel_alloc) | (with_reducible apply bel_drew) | (with_reducible apply bel_drewN) | (with_reducible refine bel_trans ?_ (by with_reducible assumption)) | (with_reducible refine bel_trans ?_ (HF.out _)) | ((with_reducible refine bel_set3 ?_ ?_); rotate_left; omega)))⟩
end Go.Proofs.YtbakkpabiknlmaaGreat
