/- Joined: Ny Nz Ek Em Es Et. -/
import Derived.Test.YtgljmljmljccgaaNw0
import Derived.Test.YtgljmljmljccgaaNwa
import Derived.Test.YtgljmljmljccgaaNwb
import Derived.Test.YtgljmljmljccgaaPc
import Derived.Deep.CutBlock
import Derived.Deep.RegionHeld3
import Derived.Test.YtgljmljmljccgaaEj
import Derived.Deep.RegionLaw
namespace Go.Proofs.Ytgljmljmljccgaa
open Go.RowKit
set_option linter.unusedSimpArgs false
set_option linter.unusedVariables false

set_option maxRecDepth 100000 in
set_option maxHeartbeats 8000000 in
theorem ref22_Apply_no (A : Option Addr) (n c : Nat) (l : List PairD) (B : Option Addr) (m d : Nat) (q : List AcctD) (x : TxD) (w : World) (hl : PairsR w A n l) (hq : AcctsR w B m q) (hM : MayT l q) (hno : ¬ OkT l q x) :
    Calls Try.prog 25 #[.agg #[.slice A n c, .slice B m d], .agg #[.int .i64 x.se, .int .i64 x.sq, .string x.k, .string x.v]] w fun e w' => e = .returned (.tuple #[.agg #[.slice A n c, .slice B m d], .bool false]) ∧ Below w.heap.size w w' := by
  have HL := Lib.hid hl
  have HQ := Lib.hid hq
  have HN := Lib.hid hl.1
  have HMl := Lib.hid hq.1
  have hn : n ≤ 4096 := by rw [← hl.1]; exact hM.1.1
  have hm : m ≤ 4096 := by rw [← hq.1]; exact hM.2.1
  have HM := Lib.hid hM
  have HNO := Lib.hid hno
  obtain ⟨k, hk⟩ : ∃ k, kposP l x.k = k := ⟨_, rfl⟩
  obtain ⟨i, hi⟩ : ∃ i, kposA q x.se = i := ⟨_, rfl⟩
  have HK := Lib.hid hk
  have HI := Lib.hid hi
  obtain ⟨la, hla⟩ : ∃ la, lastA q x.se = la := ⟨_, rfl⟩
  have HLA := Lib.hid hla
  obtain ⟨ya, hya⟩ : ∃ y, khasA q x.se = y := ⟨_, rfl⟩
  obtain ⟨yp, hyp⟩ : ∃ y, khasP l x.k = y := ⟨_, rfl⟩
  have HHas := Lib.hid hya
  have HTh := Lib.hid hyp
  clear hl hq hM hno hk hi hla hya hyp
  cases hty : txS x
  · have HTY := Lib.hid hty
    clear hty
    go_enter Try.func25, Try.ntmps25
    go_wp2_with fail
    refine (ref4_Tx x false _ HTY.out).mono ?_
    rintro e w1 ⟨rfl, hb1⟩
    have hz_w1 : w.heap.size + 3 ≤ w1.heap.size := (by have hq := (hb1).size; (try simp at hq); omega); have hc0_w1 := fun o => (bcell hb1).1 (w.heap.size) o (by first | (simp; done) | (simp; omega) | omega); have hc1_w1 := fun o => (bcell hb1).1 (w.heap.size + 1) o (by first | (simp; done) | (simp; omega) | omega); have hc2_w1 := fun o => (bcell hb1).1 (w.heap.size + 2) o (by first | (simp; done) | (simp; omega) | omega); have hf0_w1 := fun o => (bcell hb1).2 (w.heap.size) o (by first | (simp; done) | (simp; omega) | omega); have hf1_w1 := fun o => (bcell hb1).2 (w.heap.size + 1) o (by first | (simp; done) | (simp; omega) | omega); have hf2_w1 := fun o => (bcell hb1).2 (w.heap.size + 2) o (by first | (simp; done) | (simp; omega) | omega)
    go_wp2_with fail
    exact bodyPost_ret (v := .tuple #[.agg #[.slice A n c, .slice B m d], .bool false]) (by simp [results, Try.results25, go_sem, hc0_w1, hc1_w1, hc2_w1]) rfl ⟨rfl, by (repeat (first | (with_reducible exact Below.refl _ _) | (with_reducible assumption) | (with_reducible apply bel_alloc) | (with_reducible apply bel_drew) | (with_reducible apply bel_drewN) | (with_reducible refine bel_trans ?_ (by with_reducible assumption)) | (with_reducible refine bel_trans ?_ (HF.out _)) | ((with_reducible refine bel_set3 ?_ ?_); rotate_left; omega)))⟩
  have HTY := Lib.hid hty
  have hlab : 0 ≤ la ∧ la ≤ 1099511627776 := by
    cases ya
    · have := lastA_no HHas.out
      rw [HLA.out] at this; omega
    · obtain ⟨h1, h2⟩ := khasA_lt HI.out HHas.out
      have h3 := (HM.out.2.2 i h1).1
      unfold acctS at h3
      rw [Bool.and_eq_true] at h3
      have h4 := idS_iff.1 h3.2
      have : la = (ath q i).sq := by rw [← HLA.out]; unfold lastA; rw [if_pos HHas.out, HI.out]
      omega
  obtain ⟨hlab1, hlab2⟩ := hlab
  go_enter Try.func25, Try.ntmps25
  go_wp2_with fail
  refine (ref4_Tx x true _ HTY.out).mono ?_
  rintro e w1 ⟨rfl, hb1⟩
  have hbw1 : Below w.heap.size w w1 := by (repeat (first | (with_reducible exact Below.refl _ _) | (with_reducible assumption) | (with_reducible apply bel_alloc) | (with_reducible apply bel_drew) | (with_reducible apply bel_drewN) | (with_reducible refine bel_trans ?_ (by with_reducible assumption)) | (with_reducible refine bel_trans ?_ (HF.out _)) | ((with_reducible refine bel_set3 ?_ ?_); rotate_left; omega)))
  have hX1 : Blk w1 (w.heap.size + 1) 44 [.int .i64 x.se, .int .i64 x.sq, .string x.k, .string x.v] := Blk.up (w := ((w.alloc (.cells #[.slice A n c, .slice B m d] 25)).alloc (.cells #[.int .i64 x.se, .int .i64 x.sq, .string x.k, .string x.v] 44)).alloc (.cells #[.slice none 0 0, .slice none 0 0] 25)) (by have q := (Blk.new (w.alloc (.cells #[.slice A n c, .slice B m d] 25)) 44 [.int .i64 x.se, .int .i64 x.sq, .string x.k, .string x.v]).up (w' := ((w.alloc (.cells #[.slice A n c, .slice B m d] 25)).alloc (.cells #[.int .i64 x.se, .int .i64 x.sq, .string x.k, .string x.v] 44)).alloc (.cells #[.slice none 0 0, .slice none 0 0] 25)) (by (repeat (first | (with_reducible exact Below.refl _ _) | (with_reducible assumption) | (with_reducible apply bel_alloc) | (with_reducible apply bel_drew) | (with_reducible apply bel_drewN) | (with_reducible refine bel_trans ?_ (by with_reducible assumption)) | (with_reducible refine bel_trans ?_ (HF.out _)) | (with_reducible refine bel_set ?_ (by simp) _) | (with_reducible refine bel_set ?_ (by simp; omega) _) | (with_reducible refine bel_set ?_ (by omega) _)))); simpa using q) hb1
  have hR1 : Blk w1 (w.heap.size + 2) 25 [.slice none 0 0, .slice none 0 0] := Blk.up (w := ((w.alloc (.cells #[.slice A n c, .slice B m d] 25)).alloc (.cells #[.int .i64 x.se, .int .i64 x.sq, .string x.k, .string x.v] 44)).alloc (.cells #[.slice none 0 0, .slice none 0 0] 25)) (by have q := Blk.new ((w.alloc (.cells #[.slice A n c, .slice B m d] 25)).alloc (.cells #[.int .i64 x.se, .int .i64 x.sq, .string x.k, .string x.v] 44)) 25 [.slice none 0 0, .slice none 0 0]; simpa using q) hb1
  have hT1 : Blk w1 w.heap.size 25 [.slice A n c, .slice B m d] := Blk.up (w := ((w.alloc (.cells #[.slice A n c, .slice B m d] 25)).alloc (.cells #[.int .i64 x.se, .int .i64 x.sq, .string x.k, .string x.v] 44)).alloc (.cells #[.slice none 0 0, .slice none 0 0] 25)) ((Blk.new w 25 [.slice A n c, .slice B m d]).up (by (repeat (first | (with_reducible exact Below.refl _ _) | (with_reducible assumption) | (with_reducible apply bel_alloc) | (with_reducible apply bel_drew) | (with_reducible apply bel_drewN) | (with_reducible refine bel_trans ?_ (by with_reducible assumption)) | (with_reducible refine bel_trans ?_ (HF.out _)) | (with_reducible refine bel_set ?_ (by simp) _) | (with_reducible refine bel_set ?_ (by simp; omega) _) | (with_reducible refine bel_set ?_ (by omega) _))))) hb1
  clear hb1 hty
  have t_0 := (hT1.box).2 0 _ rfl; have t_1 := (hT1.box).2 1 _ rfl
  have x_0 := (hX1.box).2 0 _ rfl; have x_1 := (hX1.box).2 1 _ rfl; have x_2 := (hX1.box).2 2 _ rfl; have x_3 := (hX1.box).2 3 _ rfl
  go_wp2_with fail
  refine (refs_A B m d q x.se i ya _ (HQ.out.up hbw1) HI.out HHas.out).mono ?_
  rintro e w2 ⟨rfl, hb2⟩
  have hbw2 := bel_trans hbw1 hb2
  have hX2 := hX1.up hb2
  have hR2 := hR1.up hb2
  have hT2 := hT1.up hb2
  clear t_0 t_1 x_0 x_1 x_2 x_3 hX1 hR1 hT1 hb2
  have t_0 := (hT2.box).2 0 _ rfl; have t_1 := (hT2.box).2 1 _ rfl
  have x_0 := (hX2.box).2 0 _ rfl; have x_1 := (hX2.box).2 1 _ rfl; have x_2 := (hX2.box).2 2 _ rfl; have x_3 := (hX2.box).2 3 _ rfl
  go_wp2_with fail
  refine (refs_P A n c l x.k k yp _ (HL.out.up hbw2) HK.out HTh.out).mono ?_
  rintro e w3 ⟨rfl, hb3⟩
  have hbw3 := bel_trans hbw2 hb3
  have hX3 := hX2.up hb3
  have hR3 := hR2.up hb3
  have hT3 := hT2.up hb3
  clear t_0 t_1 x_0 x_1 x_2 x_3 hX2 hR2 hT2 hb3 hbw1 hbw2
  have t_0 := (hT3.box).2 0 _ rfl; have t_1 := (hT3.box).2 1 _ rfl
  have x_0 := (hX3.box).2 0 _ rfl; have x_1 := (hX3.box).2 1 _ rfl; have x_2 := (hX3.box).2 2 _ rfl; have x_3 := (hX3.box).2 3 _ rfl
  have r0 := hR3.box.2 0 _ rfl
  have r1 := hR3.box.2 1 _ rfl
  have rf := hR3.frozen
  have hR4 := (hR3.set_ 0 (.slice A n c)).set_ 1 (.slice B m d)
  have s0 := hR4.box.2 0 _ rfl
  have s1 := hR4.box.2 1 _ rfl
  clear hX3 hR3 hT3 hR4
  have nil1 : ¬ x.v.size = 0 → (x.v.toList != []) = true ∧ (x.v.toList == []) = false ∧ ¬ x.v.toList = [] := fun h => by rw [bne_iff_ne, beq_eq_false_iff_ne]; exact ⟨fun g => h (toList_nil.1 g), fun g => h (toList_nil.1 g), fun g => h (toList_nil.1 g)⟩
  have NIL := Lib.hid nil1
  clear nil1
  cases ya
  · have el0 : la = 0 := by rw [← HLA.out]; exact lastA_no HHas.out
    subst el0
    by_cases hsq : x.sq = 1
    · have hs2 : (x.sq != 1) = false := by simpa using hsq
      have HSQ : Hid (x.sq = lastA q x.se + 1) := Lib.hid (by rw [HLA.out]; exact hsq)
      clear hsq
      by_cases hmf : 4096 ≤ m
      · have hmd : decide ((4096 : Int) ≤ (m : Int)) = true := by simp; omega
        go_wp2_with fail
        exact bodyPost_ret (v := .tuple #[.agg #[.slice A n c, .slice B m d], .bool false]) (by simp [results, Try.results25, go_sem, s0, s1]) rfl ⟨rfl, by (repeat (first | (with_reducible exact Below.refl _ _) | (with_reducible assumption) | (with_reducible apply bel_alloc) | (with_reducible apply bel_drew) | (with_reducible apply bel_drewN) | (with_reducible refine bel_trans ?_ (by with_reducible assumption)) | (with_reducible refine bel_trans ?_ (HF.out _)) | ((with_reducible refine bel_set3 ?_ ?_); rotate_left; omega)))⟩
      · have hmd : decide ((4096 : Int) ≤ (m : Int)) = false := by simp; omega
        by_cases hv : yp = false ∧ ¬ x.v.size = 0 ∧ 4096 ≤ n
        · obtain ⟨rfl, hv1, hnf⟩ := hv
          obtain ⟨hv2, hv3, hv4⟩ := NIL.out hv1
          have hnd : decide ((4096 : Int) ≤ (n : Int)) = true := by simp; omega
          clear hv1
          go_wp2_with fail
          exact bodyPost_ret (v := .tuple #[.agg #[.slice A n c, .slice B m d], .bool false]) (by simp [results, Try.results25, go_sem, s0, s1]) rfl ⟨rfl, by (repeat (first | (with_reducible exact Below.refl _ _) | (with_reducible assumption) | (with_reducible apply bel_alloc) | (with_reducible apply bel_drew) | (with_reducible apply bel_drewN) | (with_reducible refine bel_trans ?_ (by with_reducible assumption)) | (with_reducible refine bel_trans ?_ (HF.out _)) | ((with_reducible refine bel_set3 ?_ ?_); rotate_left; omega)))⟩
        · exfalso
          refine HNO.out ⟨HTY.out, HSQ.out, fun h => ?_, fun h => ?_⟩
          · have := HMl.out; omega
          · rw [HTh.out, HN.out] at h; exact hv h
    · have hs2 : (x.sq != 1) = true := by simpa using hsq
      have hs3 : (x.sq == 1) = false := by simpa using hsq
      clear hsq
      go_wp2_with fail
      exact bodyPost_ret (v := .tuple #[.agg #[.slice A n c, .slice B m d], .bool false]) (by simp [results, Try.results25, go_sem, s0, s1]) rfl ⟨rfl, by (repeat (first | (with_reducible exact Below.refl _ _) | (with_reducible assumption) | (with_reducible apply bel_alloc) | (with_reducible apply bel_drew) | (with_reducible apply bel_drewN) | (with_reducible refine bel_trans ?_ (by with_reducible assumption)) | (with_reducible refine bel_trans ?_ (HF.out _)) | ((with_reducible refine bel_set3 ?_ ?_); rotate_left; omega)))⟩
  · obtain ⟨him, hse⟩ := khasA_lt HI.out HHas.out
    rw [HMl.out] at him
    obtain ⟨bq, oq, rfl, hbq, hcq⟩ := (HQ.out.up hbw3).at (by omega)
    obtain ⟨_, cq1⟩ := hcq i him
    have elq : (ath q i).sq = la := by rw [← HLA.out]; unfold lastA; rw [if_pos HHas.out, HI.out]
    rw [elq] at cq1
    clear hcq elq hse
    by_cases hsq : x.sq = la + 1
    · have hs2 : (x.sq != la + 1) = false := by simpa using hsq
      have HSQ : Hid (x.sq = lastA q x.se + 1) := Lib.hid (by rw [HLA.out]; exact hsq)
      clear hsq
      by_cases hv : yp = false ∧ ¬ x.v.size = 0 ∧ 4096 ≤ n
      · obtain ⟨rfl, hv1, hnf⟩ := hv
        obtain ⟨hv2, hv3, hv4⟩ := NIL.out hv1
        have hnd : decide ((4096 : Int) ≤ (n : Int)) = true := by simp; omega
        clear hv1
        go_wp2_with fail
        exact bodyPost_ret (v := .tuple #[.agg #[.slice A n c, .slice (some ⟨bq, oq, none⟩) m d], .bool false]) (by simp [results, Try.results25, go_sem, s0, s1]) rfl ⟨rfl, by (repeat (first | (with_reducible exact Below.refl _ _) | (with_reducible assumption) | (with_reducible apply bel_alloc) | (with_reducible apply bel_drew) | (with_reducible apply bel_drewN) | (with_reducible refine bel_trans ?_ (by with_reducible assumption)) | (with_reducible refine bel_trans ?_ (HF.out _)) | ((with_reducible refine bel_set3 ?_ ?_); rotate_left; omega)))⟩
      · exfalso
        refine HNO.out ⟨HTY.out, HSQ.out, fun h => ?_, fun h => ?_⟩
        · rw [HHas.out] at h; cases h.1
        · rw [HTh.out, HN.out] at h; exact hv h
    · have hs2 : (x.sq != la + 1) = true := by simpa using hsq
      have hs3 : (x.sq == la + 1) = false := by simpa using hsq
      clear hsq
      go_wp2_with fail
      exact bodyPost_ret (v := .tuple #[.agg #[.slice A n c, .slice (some ⟨bq, oq, none⟩) m d], .bool false]) (by simp [results, Try.results25, go_sem, s0, s1]) rfl ⟨rfl, by (repeat (first | (with_reducible exact Below.refl _ _) | (with_reducible assumption) | (with_reducible apply bel_alloc) | (with_reducible apply bel_drew) | (with_reducible apply bel_drewN) | (with_reducible refine bel_trans ?_ (by with_reducible assumption)) | (with_reducible refine bel_trans ?_ (HF.out _)) | ((with_reducible refine bel_set3 ?_ ?_); rotate_left; omega)))⟩
/-- A slice is empty or does not lie in this block. -/
def FarN (A : Option Addr) (n g : Nat) : Prop := n = 0 ∨ ∀ b o s, A = some ⟨b, o, s⟩ → b ≠ g
theorem PairsR.set_far {w : World} {A : Option Addr} {n : Nat} {l : List PairD} (h : PairsR w A n l) {g o : Nat} (hf : FarN A n g) (u : Value) : PairsR (w.setCell ⟨g, o, none⟩ u) A n l := by
  refine ⟨h.1, h.2.1, h.2.2.1, fun hn => ?_⟩
  obtain ⟨b, off, e, hb, hc⟩ := h.2.2.2 hn
  refine ⟨b, off, e, by simpa using hb, fun j v hj => ?_⟩
  rw [← hc j v hj]
  exact World.cell?_of_block (Below.heap_setCell _ _ _ _ ((hf.resolve_left (by omega)) b off none e))
theorem AcctsR.set_far {w : World} {A : Option Addr} {n : Nat} {l : List AcctD} (h : AcctsR w A n l) {g o : Nat} (hf : FarN A n g) (u : Value) : AcctsR (w.setCell ⟨g, o, none⟩ u) A n l := by
  refine ⟨h.1, h.2.1, h.2.2.1, fun hn => ?_⟩
  obtain ⟨b, off, e, hb, hc⟩ := h.2.2.2 hn
  refine ⟨b, off, e, by simpa using hb, fun j v hj => ?_⟩
  rw [← hc j v hj]
  exact World.cell?_of_block (Below.heap_setCell _ _ _ _ ((hf.resolve_left (by omega)) b off none e))
theorem PairsR.farN {w : World} {A : Option Addr} {n : Nat} {l : List PairD} (h : PairsR w A n l) {g : Nat} (hg : w.heap.size ≤ g) : FarN A n g := by
  rcases Nat.eq_zero_or_pos n with h0 | h0
  · exact .inl h0
  · obtain ⟨b, off, e, hb, _⟩ := h.2.2.2 h0
    exact .inr (fun b' o' s' e' => by rw [e] at e'; injection e' with e'; injection e' with e1; omega)
theorem AcctsR.farN {w : World} {A : Option Addr} {n : Nat} {l : List AcctD} (h : AcctsR w A n l) {g : Nat} (hg : w.heap.size ≤ g) : FarN A n g := by
  rcases Nat.eq_zero_or_pos n with h0 | h0
  · exact .inl h0
  · obtain ⟨b, off, e, hb, _⟩ := h.2.2.2 h0
    exact .inr (fun b' o' s' e' => by rw [e] at e'; injection e' with e'; injection e' with e1; omega)
theorem OwnP.farN {w : World} {C : Nat} {A : Option Addr} {n c : Nat} {l : List PairD} (h : OwnP w C (.slice A n c) l) {g : Nat} (hg : g < C) : FarN A n g := .inr (fun b o s e => by
  subst e
  rcases own_shape h with ⟨e2, _⟩ | ⟨g', c2, e2, hg', _⟩
  · injection e2 with e3; cases e3
  · injection e2 with e3; injection e3 with e3; injection e3 with e4; omega)
theorem OwnA.farN {w : World} {C : Nat} {A : Option Addr} {n c : Nat} {l : List AcctD} (h : OwnA w C (.slice A n c) l) {g : Nat} (hg : g < C) : FarN A n g := .inr (fun b o s e => by
  subst e
  rcases own_shape h with ⟨e2, _⟩ | ⟨g', c2, e2, hg', _⟩
  · injection e2 with e3; cases e3
  · injection e2 with e3; injection e3 with e3; injection e3 with e4; omega)
theorem ref22_Apply_ok (A : Option Addr) (n c : Nat) (l : List PairD) (B : Option Addr) (m d : Nat) (q : List AcctD) (x : TxD) (w : World) (hl : PairsR w A n l) (hq : AcctsR w B m q) (hM : MayT l q) (hO : OkT l q x) :
    Calls Try.prog 25 #[.agg #[.slice A n c, .slice B m d], .agg #[.int .i64 x.se, .int .i64 x.sq, .string x.k, .string x.v]] w fun e w' => ∃ vp va, e = .returned (.tuple #[.agg #[vp, va], .bool true]) ∧ OwnP w' w.heap.size vp (setP l x) ∧ OwnA w' w.heap.size va (setA q x) ∧ Disj vp va ∧ Below w.heap.size w w' := by
  cases h : khasA q x.se
  · exact ref22_Apply_okF A n c l B m d q x w hl hq hM hO h
  · exact ref22_Apply_okT A n c l B m d q x w hl hq hM hO h
theorem ref22_Apply (A : Option Addr) (n c : Nat) (l : List PairD) (B : Option Addr) (m d : Nat) (q : List AcctD) (x : TxD) (y : Bool) (w : World) (hl : PairsR w A n l) (hq : AcctsR w B m q) (hM : MayT l q) (hy : okT l q x = y) :
    Calls Try.prog 25 #[.agg #[.slice A n c, .slice B m d], .agg #[.int .i64 x.se, .int .i64 x.sq, .string x.k, .string x.v]] w fun e w' => ∃ (A' : Option Addr) (n' c' : Nat) (B' : Option Addr) (m' d' : Nat), e = .returned (.tuple #[.agg #[.slice A' n' c', .slice B' m' d'], .bool y]) ∧ PairsR w' A' n' (doP l q x) ∧ AcctsR w' B' m' (doA l q x) ∧ (∀ g, g < w.heap.size → FarN A n g → FarN B m g → FarN A' n' g ∧ FarN B' m' g) ∧ Below w.heap.size w w' := by
  subst hy
  by_cases hO : OkT l q x
  · have e1 : okT l q x = true := (dec_true hO).symm
    rw [(doP_yes e1).1, (doP_yes e1).2, e1]
    refine (ref22_Apply_ok A n c l B m d q x w hl hq hM hO).mono ?_
    rintro e w' ⟨vp, va, rfl, hp, ha, _, hb⟩
    have hM2 := hM.set hO
    obtain ⟨A', c', rfl, hpr, _⟩ := hp.pairs (by have := hM2.1.1; omega)
    obtain ⟨B', d', rfl, har, _⟩ := ha.accts (by have := hM2.2.1; omega)
    exact ⟨A', _, c', B', _, d', rfl, hpr, har, fun g hg _ _ => ⟨hp.farN hg, ha.farN hg⟩, hb⟩
  · have e1 : okT l q x = false := (dec_false hO).symm
    rw [(doP_no e1).1, (doP_no e1).2, e1]
    refine (ref22_Apply_no A n c l B m d q x w hl hq hM hO).mono ?_
    rintro e w' ⟨rfl, hb⟩
    exact ⟨A, n, c, B, m, d, rfl, hl.up hb, hq.up hb, fun g _ h1 h2 => ⟨h1, h2⟩, hb⟩
set_option maxRecDepth 100000 in
set_option maxHeartbeats 8000000 in
theorem ref22_Batch (A : Option Addr) (n c : Nat) (l : List PairD) (B : Option Addr) (m d : Nat) (q : List AcctD) (au bn : Int) (xA : Option Addr) (xn xc : Nat) (tx : List TxD) (LF : List PairD) (QF : List AcctD) (N : Nat) (w : World) (hl : PairsR w A n l) (hq : AcctsR w B m q) (hx : TxsR w xA xn tx) (hM : MayT l q) (hR : runT tx l q = (LF, QF)) (hN : runN tx l q = N) (hxn : xn ≤ 1000000) :
    Calls Try.prog 29 #[.agg #[.slice A n c, .slice B m d], .agg #[.int .i64 au, .int .i64 bn, .slice xA xn xc]] w fun e w' => ∃ (A' : Option Addr) (n' c' : Nat) (B' : Option Addr) (m' d' : Nat), e = .returned (.tuple #[.agg #[.slice A' n' c', .slice B' m' d'], .int .i64 N]) ∧ PairsR w' A' n' LF ∧ AcctsR w' B' m' QF ∧ (∀ g, g < w.heap.size → FarN A n g → FarN B m g → FarN A' n' g ∧ FarN B' m' g) ∧ Below w.heap.size w w' := by
  have HL := Lib.hid hl
  have HQ := Lib.hid hq
  have HX := Lib.hid hx
  have HXN := Lib.hid hx.1
  have HM := Lib.hid hM
  have HR := Lib.hid hR
  have HNN := Lib.hid hN
  have HF2 : Hid (FarN A n (w.heap.size + 1 + 1) ∧ FarN B m (w.heap.size + 1 + 1)) := Lib.hid ⟨hl.farN (by omega), hq.farN (by omega)⟩
  have HF0 : Hid (FarN A n w.heap.size ∧ FarN B m w.heap.size) := Lib.hid ⟨hl.farN (Nat.le_refl _), hq.farN (Nat.le_refl _)⟩
  clear hl hq hx hM hR hN
  go_enter Try.func29, Try.ntmps29
  have hG0 : Blk (((w.alloc (.cells #[.slice A n c, .slice B m d] 25)).alloc (.cells #[.int .i64 au, .int .i64 bn, .slice xA xn xc] 59)).alloc (.cells #[.slice none 0 0, .slice none 0 0] 25)) w.heap.size 25 [.slice A n c, .slice B m d] := (Blk.new w 25 [.slice A n c, .slice B m d]).up (by (repeat (first | (with_reducible exact Below.refl _ _) | (with_reducible assumption) | (with_reducible apply bel_alloc) | (with_reducible apply bel_drew) | (with_reducible apply bel_drewN) | (with_reducible refine bel_trans ?_ (by with_reducible assumption)) | (with_reducible refine bel_trans ?_ (HF.out _)) | (with_reducible refine bel_set ?_ (by simp) _) | (with_reducible refine bel_set ?_ (by simp; omega) _) | (with_reducible refine bel_set ?_ (by omega) _))))
  have hB0 : BoxR (((w.alloc (.cells #[.slice A n c, .slice B m d] 25)).alloc (.cells #[.int .i64 au, .int .i64 bn, .slice xA xn xc] 59)).alloc (.cells #[.slice none 0 0, .slice none 0 0] 25)) (w.heap.size + 1) [.int .i64 au, .int .i64 bn, .slice xA xn xc] := by have q := (BoxR.new (w.alloc (.cells #[.slice A n c, .slice B m d] 25)) [.int .i64 au, .int .i64 bn, .slice xA xn xc] 59).up (w' := (((w.alloc (.cells #[.slice A n c, .slice B m d] 25)).alloc (.cells #[.int .i64 au, .int .i64 bn, .slice xA xn xc] 59)).alloc (.cells #[.slice none 0 0, .slice none 0 0] 25))) (by (repeat (first | (with_reducible exact Below.refl _ _) | (with_reducible assumption) | (with_reducible apply bel_alloc) | (with_reducible apply bel_drew) | (with_reducible apply bel_drewN) | (with_reducible refine bel_trans ?_ (by with_reducible assumption)) | (with_reducible refine bel_trans ?_ (HF.out _)) | (with_reducible refine bel_set ?_ (by simp) _) | (with_reducible refine bel_set ?_ (by simp; omega) _) | (with_reducible refine bel_set ?_ (by omega) _)))); simpa using q
  have hR0 : Blk (((w.alloc (.cells #[.slice A n c, .slice B m d] 25)).alloc (.cells #[.int .i64 au, .int .i64 bn, .slice xA xn xc] 59)).alloc (.cells #[.slice none 0 0, .slice none 0 0] 25)) (w.heap.size + 1 + 1) 25 [.slice none 0 0, .slice none 0 0] := by have q := Blk.new ((w.alloc (.cells #[.slice A n c, .slice B m d] 25)).alloc (.cells #[.int .i64 au, .int .i64 bn, .slice xA xn xc] 59)) 25 [.slice none 0 0, .slice none 0 0]; simpa using q
  have HG0 := Lib.hid hG0
  have HB0 := Lib.hid hB0
  have HR0 := Lib.hid hR0
  clear hG0 hB0 hR0
  go_wp2_with fail
  go_loopw [6, 7] (fun s6 s7 wr => ∃ (k c' : Nat) (l' : List PairD) (q' : List AcctD) (Ak : Option Addr) (nk ck : Nat) (Bk : Option Addr) (mk dk : Nat), k ≤ xn ∧ c' ≤ k ∧ s7 = .int .i64 k ∧ s6 = .int .i64 c' ∧ Hid (Blk wr w.heap.size 25 [.slice Ak nk ck, .slice Bk mk dk]) ∧ Hid (PairsR wr Ak nk l' ∧ AcctsR wr Bk mk q') ∧ Hid (MayT l' q') ∧ Hid (runT (tx.drop k) l' q' = (LF, QF)) ∧ Hid (c' + runN (tx.drop k) l' q' = N) ∧ Hid (∀ g, g ≤ w.heap.size + 1 + 1 → FarN A n g → FarN B m g → FarN Ak nk g ∧ FarN Bk mk g) ∧ Hid (BoxR wr (w.heap.size + 1) [.int .i64 au, .int .i64 bn, .slice xA xn xc]) ∧ Hid (Blk wr (w.heap.size + 1 + 1) 25 [.slice none 0 0, .slice none 0 0]) ∧ Below w.heap.size w wr) (fun _ s7 _ => xn - (intOf s7).toNat)
  case atStart => exact ⟨0, 0, l, q, A, n, c, B, m, d, Nat.zero_le _, Nat.le_refl _, rfl, rfl, HG0, Lib.hid ⟨HL.out.up (by (repeat (first | (with_reducible exact Below.refl _ _) | (with_reducible assumption) | (with_reducible apply bel_alloc) | (with_reducible apply bel_drew) | (with_reducible apply bel_drewN) | (with_reducible refine bel_trans ?_ (by with_reducible assumption)) | (with_reducible refine bel_trans ?_ (HF.out _)) | (with_reducible refine bel_set ?_ (by simp) _) | (with_reducible refine bel_set ?_ (by simp; omega) _) | (with_reducible refine bel_set ?_ (by omega) _)))), HQ.out.up (by (repeat (first | (with_reducible exact Below.refl _ _) | (with_reducible assumption) | (with_reducible apply bel_alloc) | (with_reducible apply bel_drew) | (with_reducible apply bel_drewN) | (with_reducible refine bel_trans ?_ (by with_reducible assumption)) | (with_reducible refine bel_trans ?_ (HF.out _)) | (with_reducible refine bel_set ?_ (by simp) _) | (with_reducible refine bel_set ?_ (by simp; omega) _) | (with_reducible refine bel_set ?_ (by omega) _))))⟩, HM, Lib.hid (by rw [List.drop_zero]; exact HR.out), Lib.hid (by rw [List.drop_zero, Nat.zero_add]; exact HNN.out), Lib.hid (fun g _ h1 h2 => ⟨h1, h2⟩), HB0, HR0, by (repeat (first | (with_reducible exact Below.refl _ _) | (with_reducible assumption) | (with_reducible apply bel_alloc) | (with_reducible apply bel_drew) | (with_reducible apply bel_drewN) | (with_reducible refine bel_trans ?_ (by with_reducible assumption)) | (with_reducible refine bel_trans ?_ (HF.out _)) | (with_reducible refine bel_set ?_ (by simp) _) | (with_reducible refine bel_set ?_ (by simp; omega) _) | (with_reducible refine bel_set ?_ (by omega) _)))⟩
  case round =>
    clear HG0 HB0 HR0
    obtain ⟨k, c', l', q', Ak, nk, ck, Bk, mk, dk, hk, hck, rfl, rfl, HG, HPR, HM', HR', HN', HF, HB, HRs, hbw⟩ := hrel
    (obtain ⟨wk, hwk⟩ : ∃ x, x = wr := ⟨_, rfl⟩); subst hwk
    have hgG := HG.out.lt
    have hgB := HB.out.1
    have hgR := HRs.out.lt
    by_cases hlt : k < xn
    · obtain ⟨xb, xoff, rfl, hxb, hxc⟩ := (HX.out.up hbw).at (by omega)
      obtain ⟨x0, x1, x2, x3⟩ := hxc k hlt
      obtain ⟨hr1, hn1⟩ := runT_step (tx := tx) (k := k) (by rw [HXN.out]; exact hlt) l' q'
      rw [HR'.out] at hr1
      have hn2 := HN'.out
      rw [hn1] at hn2
      obtain ⟨x, hx⟩ : ∃ x, xth tx k = x := ⟨_, rfl⟩
      rw [hx] at x0 x1 x2 x3 hr1 hn2
      obtain ⟨y, hy⟩ : ∃ y, okT l' q' x = y := ⟨_, rfl⟩
      rw [hy] at hn2
      have HY := Lib.hid hy
      have HR1 := Lib.hid hr1.symm
      have HN2 := Lib.hid hn2
      have HM2 : Hid (MayT (doP l' q' x) (doA l' q' x)) := Lib.hid HM'.out.do_
      have hdx : decide ((k : Int) < (xn : Int)) = true := by simp; omega
      have HCL : Hid (∀ Y, Below wk.heap.size wk Y → (Y.cell? ⟨w.heap.size, 0, none⟩ = some (.slice Ak nk ck) ∧ Y.cell? ⟨w.heap.size, 1, none⟩ = some (.slice Bk mk dk)) ∧ Y.cell? ⟨w.heap.size + 1, 2, none⟩ = some (.slice (some ⟨xb, xoff, none⟩) xn xc) ∧ (Y.cell? ⟨xb, xoff + k * 4, none⟩ = some (.int .i64 x.se) ∧ Y.cell? ⟨xb, xoff + k * 4 + 1, none⟩ = some (.int .i64 x.sq) ∧ Y.cell? ⟨xb, xoff + k * 4 + 2, none⟩ = some (.string x.k) ∧ Y.cell? ⟨xb, xoff + k * 4 + 3, none⟩ = some (.string x.v))) := Lib.hid (fun Y hY => ⟨⟨(HG.out.up hY).box.2 0 _ rfl, (HG.out.up hY).box.2 1 _ rfl⟩, (HB.out.up hY).2 2 _ rfl, (hY.cell (p := ⟨xb, xoff + k * 4, none⟩) hxb).trans x0, (hY.cell (p := ⟨xb, xoff + k * 4 + 1, none⟩) hxb).trans x1, (hY.cell (p := ⟨xb, xoff + k * 4 + 2, none⟩) hxb).trans x2, (hY.cell (p := ⟨xb, xoff + k * 4 + 3, none⟩) hxb).trans x3⟩)
      have HFK : Hid (FarN Ak nk wk.heap.size ∧ FarN Bk mk wk.heap.size) := Lib.hid ⟨HPR.out.1.farN (Nat.le_refl _), HPR.out.2.farN (Nat.le_refl _)⟩
      clear hxc hr1 hn1 hn2 hx hy x0 x1 x2 x3
      obtain ⟨⟨g_0, g_1⟩, b_2, ⟨x_0, x_1, x_2, x_3⟩⟩ := HCL.out wk (Below.refl _ _)
      go_upto_region 5 with fail
      clear g_0 g_1 b_2 x_0 x_1 x_2 x_3
      go_cut [8, 9] from 17 to 26 (fun s8 s9 wx => ∃ (g8 : Nat) (A9 : Option Addr) (n9 c9 : Nat) (B9 : Option Addr) (m9 d9 : Nat), wk.heap.size ≤ g8 ∧ s8 = .pointer (some ⟨g8, 0, none⟩) ∧ s9 = .bool y ∧ Blk wx g8 25 [.slice A9 n9 c9, .slice B9 m9 d9] ∧ Hid (PairsR wx A9 n9 (doP l' q' x) ∧ AcctsR wx B9 m9 (doA l' q' x)) ∧ Hid (∀ g, g < wk.heap.size → FarN Ak nk g → FarN Bk mk g → FarN A9 n9 g ∧ FarN B9 m9 g) ∧ Below wk.heap.size wk wx)
      case first =>
        go_region_held3 (fun Y => (Y.cell? ⟨w.heap.size, 0, none⟩ = some (.slice Ak nk ck) ∧ Y.cell? ⟨w.heap.size, 1, none⟩ = some (.slice Bk mk dk)) ∧ Y.cell? ⟨w.heap.size + 1, 2, none⟩ = some (.slice (some ⟨xb, xoff, none⟩) xn xc) ∧ (Y.cell? ⟨xb, xoff + k * 4, none⟩ = some (.int .i64 x.se) ∧ Y.cell? ⟨xb, xoff + k * 4 + 1, none⟩ = some (.int .i64 x.sq) ∧ Y.cell? ⟨xb, xoff + k * 4 + 2, none⟩ = some (.string x.k) ∧ Y.cell? ⟨xb, xoff + k * 4 + 3, none⟩ = some (.string x.v)))
          (exact HCL.out _ (by (repeat (first | (with_reducible exact Below.refl _ _) | (with_reducible assumption) | (with_reducible apply bel_alloc) | (with_reducible apply bel_drew) | (with_reducible apply bel_drewN) | (with_reducible refine bel_trans ?_ (by with_reducible assumption)) | (with_reducible refine bel_trans ?_ (HF.out _)) | ((with_reducible refine bel_set3 ?_ ?_); rotate_left; omega)))))
          ((go_at_call 25; refine (ref22_Apply Ak nk ck l' Bk mk dk q' x y _ (HPR.out.1.up (by (repeat (first | (with_reducible exact Below.refl _ _) | (with_reducible assumption) | (with_reducible apply bel_alloc) | (with_reducible apply bel_drew) | (with_reducible apply bel_drewN) | (with_reducible refine bel_trans ?_ (by with_reducible assumption)) | (with_reducible refine bel_trans ?_ (HF.out _)) | (with_reducible refine bel_set ?_ (by simp) _) | (with_reducible refine bel_set ?_ (by simp; omega) _) | (with_reducible refine bel_set ?_ (by omega) _))))) (HPR.out.2.up (by (repeat (first | (with_reducible exact Below.refl _ _) | (with_reducible assumption) | (with_reducible apply bel_alloc) | (with_reducible apply bel_drew) | (with_reducible apply bel_drewN) | (with_reducible refine bel_trans ?_ (by with_reducible assumption)) | (with_reducible refine bel_trans ?_ (HF.out _)) | (with_reducible refine bel_set ?_ (by simp) _) | (with_reducible refine bel_set ?_ (by simp; omega) _) | (with_reducible refine bel_set ?_ (by omega) _))))) HM'.out HY.out).mono ?_; rintro e w7 ⟨A7, n7, c7, B7, m7, d7, rfl, hP7, hA7, hF7, hb7⟩; have HP7 := Lib.hid hP7; have HA7 := Lib.hid hA7; have HF7 := Lib.hid hF7; clear hF7 hP7 hA7; (try have hcA := fun o => (bcell hb7).1 wk.heap.size o (by first | (simp; done) | (simp; omega) | omega)); (try have hfA := fun o => (bcell hb7).2 wk.heap.size o (by first | (simp; done) | (simp; omega) | omega)); have hzA := hb7.size; (try simp at hzA)))
        · go_wp2_with fail
          go_meet
          exact ⟨_, A7, n7, c7, B7, m7, d7, by omega, rfl, rfl, Blk.new w7 25 [.slice A7 n7 c7, .slice B7 m7 d7], Lib.hid ⟨HP7.out.up (by (repeat (first | (with_reducible exact Below.refl _ _) | (with_reducible assumption) | (with_reducible apply bel_alloc) | (with_reducible apply bel_drew) | (with_reducible apply bel_drewN) | (with_reducible refine bel_trans ?_ (by with_reducible assumption)) | (with_reducible refine bel_trans ?_ (HF.out _)) | (with_reducible refine bel_set ?_ (by simp) _) | (with_reducible refine bel_set ?_ (by simp; omega) _) | (with_reducible refine bel_set ?_ (by omega) _)))), HA7.out.up (by (repeat (first | (with_reducible exact Below.refl _ _) | (with_reducible assumption) | (with_reducible apply bel_alloc) | (with_reducible apply bel_drew) | (with_reducible apply bel_drewN) | (with_reducible refine bel_trans ?_ (by with_reducible assumption)) | (with_reducible refine bel_trans ?_ (HF.out _)) | (with_reducible refine bel_set ?_ (by simp) _) | (with_reducible refine bel_set ?_ (by simp; omega) _) | (with_reducible refine bel_set ?_ (by omega) _))))⟩, Lib.hid (fun g hg h1 h2 => HF7.out g (by simpa using hg) h1 h2), by (repeat (first | (with_reducible exact Below.refl _ _) | (with_reducible assumption) | (with_reducible apply bel_alloc) | (with_reducible apply bel_drew) | (with_reducible apply bel_drewN) | (with_reducible refine bel_trans ?_ (by with_reducible assumption)) | (with_reducible refine bel_trans ?_ (HF.out _)) | ((with_reducible refine bel_set3 ?_ ?_); rotate_left; omega)))⟩
        · go_wp2_with fail
          go_meet
          have hk9 : Blk w7 wk.heap.size 25 [.slice none 0 0, .slice none 0 0] := Blk.up (Blk.new wk.drew 25 [.slice none 0 0, .slice none 0 0]) hb7
          have hf9 := HF7.out wk.heap.size (by simp) HFK.out.1 HFK.out.2
          exact ⟨_, A7, n7, c7, B7, m7, d7, Nat.le_refl _, rfl, rfl, (hk9.set_ 0 _).set_ 1 _, Lib.hid ⟨(HP7.out.set_far hf9.1 _).set_far hf9.1 _, (HA7.out.set_far hf9.2 _).set_far hf9.2 _⟩, Lib.hid (fun g hg h1 h2 => HF7.out g (by simp; omega) h1 h2), by (repeat (first | (with_reducible exact Below.refl _ _) | (with_reducible assumption) | (with_reducible apply bel_alloc) | (with_reducible apply bel_drew) | (with_reducible apply bel_drewN) | (with_reducible refine bel_trans ?_ (by with_reducible assumption)) | (with_reducible refine bel_trans ?_ (HF.out _)) | ((with_reducible refine bel_set3 ?_ ?_); rotate_left; omega)))⟩
      case rest =>
      obtain ⟨g8, A9, n9, c9, B9, m9, d9, hg8, rfl, rfl, hG9, HP9, HF9, hb9⟩ := hcut
      obtain ⟨z, hz⟩ : ∃ x, x = wc := ⟨_, rfl⟩
      subst hz
      have hgz := HG.out.up hb9
      have hl9 := hG9.lt
      have hlz := hgz.lt
      have hfz := hgz.frozen
      have f_0 := (hG9.box).2 0 _ rfl; have f_1 := (hG9.box).2 1 _ rfl
      have e_0 := (hgz.box).2 0 _ rfl; have e_1 := (hgz.box).2 1 _ rfl
      have hne : g8 ≠ w.heap.size := by omega
      have hfg := HF9.out w.heap.size hgG
      have hf0 : FarN A9 n9 w.heap.size ∧ FarN B9 m9 w.heap.size := HF9.out w.heap.size hgG (HF.out w.heap.size (by omega) HF0.out.1 HF0.out.2).1 (HF.out w.heap.size (by omega) HF0.out.1 HF0.out.2).2
      have hGn := (hgz.set_ 0 (.slice A9 n9 c9)).set_ 1 (.slice B9 m9 d9)
      have HGn := Lib.hid hGn
      have HPn : Hid (PairsR ((z.setCell ⟨w.heap.size, 0, none⟩ (.slice A9 n9 c9)).setCell ⟨w.heap.size, 1, none⟩ (.slice B9 m9 d9)) A9 n9 (doP l' q' x) ∧ AcctsR ((z.setCell ⟨w.heap.size, 0, none⟩ (.slice A9 n9 c9)).setCell ⟨w.heap.size, 1, none⟩ (.slice B9 m9 d9)) B9 m9 (doA l' q' x)) := Lib.hid ⟨(HP9.out.1.set_far hf0.1 _).set_far hf0.1 _, (HP9.out.2.set_far hf0.2 _).set_far hf0.2 _⟩
      have HFn : Hid (∀ g, g ≤ w.heap.size + 1 + 1 → FarN A n g → FarN B m g → FarN A9 n9 g ∧ FarN B9 m9 g) := Lib.hid (fun g hg h1 h2 => HF9.out g (by omega) (HF.out g hg h1 h2).1 (HF.out g hg h1 h2).2)
      have HBn : Hid (BoxR ((z.setCell ⟨w.heap.size, 0, none⟩ (.slice A9 n9 c9)).setCell ⟨w.heap.size, 1, none⟩ (.slice B9 m9 d9)) (w.heap.size + 1) [.int .i64 au, .int .i64 bn, .slice (some ⟨xb, xoff, none⟩) xn xc]) := Lib.hid (((HB.out.up hb9).set (a := ⟨w.heap.size, 0, none⟩) (v := .slice A9 n9 c9) (by dsimp only; omega)).set (a := ⟨w.heap.size, 1, none⟩) (v := .slice B9 m9 d9) (by dsimp only; omega))
      have HRn : Hid (Blk ((z.setCell ⟨w.heap.size, 0, none⟩ (.slice A9 n9 c9)).setCell ⟨w.heap.size, 1, none⟩ (.slice B9 m9 d9)) (w.heap.size + 1 + 1) 25 [.slice none 0 0, .slice none 0 0]) := Lib.hid (((HRs.out.up hb9).far (p := ⟨w.heap.size, 0, none⟩) (by dsimp only; omega) _).far (p := ⟨w.heap.size, 1, none⟩) (by dsimp only; omega) _)
      have hbn : Below w.heap.size w ((z.setCell ⟨w.heap.size, 0, none⟩ (.slice A9 n9 c9)).setCell ⟨w.heap.size, 1, none⟩ (.slice B9 m9 d9)) := ((bel_trans hbw hb9).setCell (p := ⟨w.heap.size, 0, none⟩) (Nat.le_refl _) _).setCell (p := ⟨w.heap.size, 1, none⟩) (Nat.le_refl _) _
      clear hgz hG9 hfg hf0 hGn
      cases y
      · go_wp2_with fail
        (first | (go_round; (case rel => exact ⟨k + 1, c', _, _, _, _, _, _, _, _, by omega, by omega, by go_num, rfl, HGn, HPn, HM2, HR1, Lib.hid (by have := HN2.out; simpa using this), HFn, HBn, HRn, hbn⟩); (case measure => (simp [intOf] <;> omega))) | (go_roundw; (case rel => exact ⟨k + 1, c', _, _, _, _, _, _, _, _, by omega, by omega, by go_num, rfl, HGn, HPn, HM2, HR1, Lib.hid (by have := HN2.out; simpa using this), HFn, HBn, HRn, hbn⟩); (case measure => (simp [intOf] <;> omega))) | (refine ⟨?_, by simp [intOf] <;> omega⟩; (repeat apply Exists.intro); refine ⟨?rel, ?fr⟩; (case fr => ((repeat' apply And.intro) <;> rfl)); (case rel => exact ⟨k + 1, c', _, _, _, _, _, _, _, _, by omega, by omega, by go_num, rfl, HGn, HPn, HM2, HR1, Lib.hid (by have := HN2.out; simpa using this), HFn, HBn, HRn, hbn⟩)))
      · go_wp2_with fail
        (first | (go_round; (case rel => exact ⟨k + 1, c' + 1, _, _, _, _, _, _, _, _, by omega, by omega, by go_num, by go_num, HGn, HPn, HM2, HR1, Lib.hid (by have := HN2.out; simp at this; omega), HFn, HBn, HRn, hbn⟩); (case measure => (simp [intOf] <;> omega))) | (go_roundw; (case rel => exact ⟨k + 1, c' + 1, _, _, _, _, _, _, _, _, by omega, by omega, by go_num, by go_num, HGn, HPn, HM2, HR1, Lib.hid (by have := HN2.out; simp at this; omega), HFn, HBn, HRn, hbn⟩); (case measure => (simp [intOf] <;> omega))) | (refine ⟨?_, by simp [intOf] <;> omega⟩; (repeat apply Exists.intro); refine ⟨?rel, ?fr⟩; (case fr => ((repeat' apply And.intro) <;> rfl)); (case rel => exact ⟨k + 1, c' + 1, _, _, _, _, _, _, _, _, by omega, by omega, by go_num, by go_num, HGn, HPn, HM2, HR1, Lib.hid (by have := HN2.out; simp at this; omega), HFn, HBn, HRn, hbn⟩)))
    · have hd : tx.drop k = [] := List.drop_of_length_le (by rw [HXN.out]; omega)
      have hR2 := HR'.out
      rw [hd] at hR2
      have hN3 := HN'.out
      rw [hd] at hN3
      have e1 : l' = LF ∧ q' = QF := by have := hR2; unfold runT at this; exact ⟨congrArg Prod.fst this, congrArg Prod.snd this⟩
      obtain ⟨rfl, rfl⟩ := e1
      have e2 : c' = N := by have := hN3; unfold runN at this; omega
      subst e2
      have hdx : decide ((k : Int) < (xn : Int)) = false := by simp; omega
      clear hd hR2 hN3
      have hrf := HRs.out.frozen
      have hRn := (HRs.out.set_ 0 (.slice Ak nk ck)).set_ 1 (.slice Bk mk dk)
      have s0 := hRn.box.2 0 _ rfl
      have s1 := hRn.box.2 1 _ rfl
      have hfr := HF.out (w.heap.size + 1 + 1) (Nat.le_refl _) HF2.out.1 HF2.out.2
      have HFR := Lib.hid hfr
      have g_0 := (HG.out.box).2 0 _ rfl; have g_1 := (HG.out.box).2 1 _ rfl
      have b_0 := (HB.out).2 0 _ rfl; have b_1 := (HB.out).2 1 _ rfl; have b_2 := (HB.out).2 2 _ rfl
      have r_0 := (HRs.out.box).2 0 _ rfl; have r_1 := (HRs.out.box).2 1 _ rfl
      clear hRn hfr
      go_wp2_with fail
      exact bodyPost_ret (v := .tuple #[.agg #[.slice Ak nk ck, .slice Bk mk dk], .int .i64 c']) (by simp [results, Try.results29, go_sem, s0, s1]) rfl ⟨Ak, nk, ck, Bk, mk, dk, rfl, (HPR.out.1.set_far HFR.out.1 _).set_far HFR.out.1 _, (HPR.out.2.set_far HFR.out.2 _).set_far HFR.out.2 _, fun g hg h1 h2 => HF.out g (by omega) h1 h2, (hbw.setCell (p := ⟨w.heap.size + 1 + 1, 0, none⟩) (by dsimp only; omega) _).setCell (p := ⟨w.heap.size + 1 + 1, 1, none⟩) (by dsimp only; omega) _⟩
set_option maxRecDepth 100000 in
set_option maxHeartbeats 4000000 in
theorem exec_Step_bad (pA qA sA lA : Option Addr) (pn pc qn qc sn sc ln lc : Nat) (p : List PairD) (q : List AcctD) (s : List Int) (l : List HeldD) (c : Int) (w : World) (hp : PairsR w pA pn p) (hq : AcctsR w qA qn q) (hs : IntsR w sA sn s) (hl : HeldsR w lA ln l) (hno : ¬ (exB p q s c = true ∧ hdB l = true)) :
    Calls Try.prog 40 #[.agg #[.slice pA pn pc, .slice qA qn qc, .slice sA sn sc, .int .i64 c], .slice lA ln lc] w fun e w' => e = .returned (.tuple #[.agg #[.slice none 0 0, .slice none 0 0, .slice none 0 0, .int .i64 0], .int .i64 0, .int .i64 1]) ∧ Below w.heap.size w w' := by
  have HP := Lib.hid hp
  have HQ := Lib.hid hq
  have HS := Lib.hid hs
  have HL := Lib.hid hl
  obtain ⟨y1, hy1⟩ : ∃ y, exB p q s c = y := ⟨_, rfl⟩
  obtain ⟨y2, hy2⟩ : ∃ y, hdB l = y := ⟨_, rfl⟩
  rw [hy1, hy2] at hno
  have HY1 := Lib.hid hy1
  have HY2 := Lib.hid hy2
  clear hp hq hs hl hy1 hy2
  cases y1
  case' true =>
    cases y2
    case' true => exact absurd ⟨rfl, rfl⟩ hno
  all_goals
    clear hno
    go_enter Try.func40, Try.ntmps40
    go_wp2_with (first
      | (go_at_call 76; refine (exec_May pA qA sA pn pc qn qc sn sc p q s c _ _ (HP.out.up (by (repeat (first | (with_reducible exact Below.refl _ _) | (with_reducible assumption) | (with_reducible apply bel_alloc) | (with_reducible apply bel_drew) | (with_reducible apply bel_drewN) | (with_reducible refine bel_trans ?_ (by with_reducible assumption)) | (with_reducible refine bel_trans ?_ (HF.out _)) | (with_reducible refine bel_set ?_ (by simp) _) | (with_reducible refine bel_set ?_ (by simp; omega) _) | (with_reducible refine bel_set ?_ (by omega) _))))) (HQ.out.up (by (repeat (first | (with_reducible exact Below.refl _ _) | (with_reducible assumption) | (with_reducible apply bel_alloc) | (with_reducible apply bel_drew) | (with_reducible apply bel_drewN) | (with_reducible refine bel_trans ?_ (by with_reducible assumption)) | (with_reducible refine bel_trans ?_ (HF.out _)) | (with_reducible refine bel_set ?_ (by simp) _) | (with_reducible refine bel_set ?_ (by simp; omega) _) | (with_reducible refine bel_set ?_ (by omega) _))))) (HS.out.up (by (repeat (first | (with_reducible exact Below.refl _ _) | (with_reducible assumption) | (with_reducible apply bel_alloc) | (with_reducible apply bel_drew) | (with_reducible apply bel_drewN) | (with_reducible refine bel_trans ?_ (by with_reducible assumption)) | (with_reducible refine bel_trans ?_ (HF.out _)) | (with_reducible refine bel_set ?_ (by simp) _) | (with_reducible refine bel_set ?_ (by simp; omega) _) | (with_reducible refine bel_set ?_ (by omega) _))))) HY1.out).mono ?_; rintro e w1 ⟨rfl, hb1⟩; have hR1 := (show Blk ((w.alloc (.cells #[.slice pA pn pc, .slice qA qn qc, .slice sA sn sc, .int .i64 c] 68)).alloc (.cells #[.slice none 0 0, .slice none 0 0, .slice none 0 0, .int .i64 0] 68)) (w.heap.size + 1) 68 [.slice none 0 0, .slice none 0 0, .slice none 0 0, .int .i64 0] from by have := Blk.new (w.alloc (.cells #[.slice pA pn pc, .slice qA qn qc, .slice sA sn sc, .int .i64 c] 68)) 68 [.slice none 0 0, .slice none 0 0, .slice none 0 0, .int .i64 0]; simpa using this).up hb1; have hE1 := (show Blk ((w.alloc (.cells #[.slice pA pn pc, .slice qA qn qc, .slice sA sn sc, .int .i64 c] 68)).alloc (.cells #[.slice none 0 0, .slice none 0 0, .slice none 0 0, .int .i64 0] 68)) w.heap.size 68 [.slice pA pn pc, .slice qA qn qc, .slice sA sn sc, .int .i64 c] from (Blk.new w 68 [.slice pA pn pc, .slice qA qn qc, .slice sA sn sc, .int .i64 c]).up (by (repeat (first | (with_reducible exact Below.refl _ _) | (with_reducible assumption) | (with_reducible apply bel_alloc) | (with_reducible apply bel_drew) | (with_reducible apply bel_drewN) | (with_reducible refine bel_trans ?_ (by with_reducible assumption)) | (with_reducible refine bel_trans ?_ (HF.out _)) | (with_reducible refine bel_set ?_ (by simp) _) | (with_reducible refine bel_set ?_ (by simp; omega) _) | (with_reducible refine bel_set ?_ (by omega) _))))).up hb1; have hbw1 : Below w.heap.size w w1 := (by (repeat (first | (with_reducible exact Below.refl _ _) | (with_reducible assumption) | (with_reducible apply bel_alloc) | (with_reducible apply bel_drew) | (with_reducible apply bel_drewN) | (with_reducible refine bel_trans ?_ (by with_reducible assumption)) | (with_reducible refine bel_trans ?_ (HF.out _)) | (with_reducible refine bel_set ?_ (by simp) _) | (with_reducible refine bel_set ?_ (by simp; omega) _) | (with_reducible refine bel_set ?_ (by omega) _)))); have HR1 := Lib.hid hR1; have HE1 := Lib.hid hE1; have rf := hR1.frozen; have hrl := hR1.lt; have hel := hE1.lt; have g_0 := (hE1.box).2 0 _ rfl; have g_1 := (hE1.box).2 1 _ rfl; have g_2 := (hE1.box).2 2 _ rfl; have g_3 := (hE1.box).2 3 _ rfl; have k_0 := (hR1.box).2 0 _ rfl; have k_1 := (hR1.box).2 1 _ rfl; have k_2 := (hR1.box).2 2 _ rfl; have k_3 := (hR1.box).2 3 _ rfl; have hR6 := set4 hR1 (.slice none 0 0) (.slice none 0 0) (.slice none 0 0) (.int .i64 0); have r_0 := (hR6.box).2 0 _ rfl; have r_1 := (hR6.box).2 1 _ rfl; have r_2 := (hR6.box).2 2 _ rfl; have r_3 := (hR6.box).2 3 _ rfl; clear hR6 hR1 hE1)
      | (go_at_call 82; refine (worker_MayHeld lA ln lc l _ _ (HL.out.up hbw1) HY2.out).mono ?_; rintro e w2 ⟨rfl, hb2⟩; clear rf hrl hel g_0 g_1 g_2 g_3 k_0 k_1 k_2 k_3 r_0 r_1 r_2 r_3; have hR2 := HR1.out.up hb2; have hE2 := HE1.out.up hb2; have hbw2 : Below w.heap.size w w2 := bel_trans hbw1 hb2; have HR2 := Lib.hid hR2; have HE2 := Lib.hid hE2; have rf := hR2.frozen; have hrl := hR2.lt; have hel := hE2.lt; have g_0 := (hE2.box).2 0 _ rfl; have g_1 := (hE2.box).2 1 _ rfl; have g_2 := (hE2.box).2 2 _ rfl; have g_3 := (hE2.box).2 3 _ rfl; have k_0 := (hR2.box).2 0 _ rfl; have k_1 := (hR2.box).2 1 _ rfl; have k_2 := (hR2.box).2 2 _ rfl; have k_3 := (hR2.box).2 3 _ rfl; have hR6 := set4 hR2 (.slice none 0 0) (.slice none 0 0) (.slice none 0 0) (.int .i64 0); have r_0 := (hR6.box).2 0 _ rfl; have r_1 := (hR6.box).2 1 _ rfl; have r_2 := (hR6.box).2 2 _ rfl; have r_3 := (hR6.box).2 3 _ rfl; clear hR6 hR2 hE2))
    exact bodyPost_ret (v := .tuple #[.agg #[.slice none 0 0, .slice none 0 0, .slice none 0 0, .int .i64 0], .int .i64 0, .int .i64 1]) (by simp [results, Try.results40, go_sem, r_0, r_1, r_2, r_3]) rfl ⟨rfl, by (repeat (first | (with_reducible exact Below.refl _ _) | (with_reducible assumption) | (with_reducible apply bel_alloc) | (with_reducible apply bel_drew) | (with_reducible apply bel_drewN) | (with_reducible refine bel_trans ?_ (by with_reducible assumption)) | (with_reducible refine bel_trans ?_ (HF.out _)) | ((with_reducible refine bel_set3 ?_ ?_); rotate_left; omega)))⟩
set_option maxRecDepth 100000 in
set_option maxHeartbeats 4000000 in
theorem exec_Step_ok (pA qA sA lA : Option Addr) (pn pc qn qc sn sc ln lc : Nat) (p : List PairD) (q : List AcctD) (s : List Int) (l : List HeldD) (cn : Nat) (FP : List PairD) (FQ : List AcctD) (N : Nat) (w : World) (hp : PairsR w pA pn p) (hq : AcctsR w qA qn q) (hs : IntsR w sA sn s) (hl : HeldsR w lA ln l) (h1 : exB p q s cn = true) (h2 : hdB l = true) (h3 : sn ≤ 1000000) (h4 : ln ≤ 1000000) (hR : stepR l (s.drop cn) p q = ((FP, FQ), N)) :
    Calls Try.prog 40 #[.agg #[.slice pA pn pc, .slice qA qn qc, .slice sA sn sc, .int .i64 cn], .slice lA ln lc] w fun e w' => ∃ vp va vs, e = .returned (.tuple #[.agg #[vp, va, vs, .int .i64 ((cn : Int) + (N : Int))], .int .i64 N, .int .i64 0]) ∧ ExO w' w.heap.size vp va vs FP FQ s ∧ Below w.heap.size w w' := by
  have HP := Lib.hid hp
  have HQ := Lib.hid hq
  have HS := Lib.hid hs
  have HL := Lib.hid hl
  have HY1 := Lib.hid h1
  have HY2 := Lib.hid h2
  have HRR := Lib.hid hR
  have hpl : pn ≤ 4096 := by rw [← hp.1]; exact (exB_iff.1 h1).1.1.1
  have hql : qn ≤ 4096 := by rw [← hq.1]; exact (exB_iff.1 h1).1.2.1
  have hcn : cn ≤ sn := by have := (exB_iff.1 h1).2.2.2; rw [hs.1] at this; omega
  have HMT := Lib.hid (exB_iff.1 h1).1
  have HMF : Hid (MayT FP FQ ∧ N ≤ sn) := Lib.hid (by
    have := stepR_may l (s.drop cn) (exB_iff.1 h1).1
    rw [hR] at this
    exact ⟨this.1, Nat.le_trans this.2 (by simp [hs.1])⟩)
  clear hp hq hs hl h1 h2 hR
  go_enter Try.func40, Try.ntmps40
  go_wp2_with (first
      | (go_at_call 76; refine (exec_May pA qA sA pn pc qn qc sn sc p q s (cn : Int) _ _ (HP.out.up (by (repeat (first | (with_reducible exact Below.refl _ _) | (with_reducible assumption) | (with_reducible apply bel_alloc) | (with_reducible apply bel_drew) | (with_reducible apply bel_drewN) | (with_reducible refine bel_trans ?_ (by with_reducible assumption)) | (with_reducible refine bel_trans ?_ (HF.out _)) | (with_reducible refine bel_set ?_ (by simp) _) | (with_reducible refine bel_set ?_ (by simp; omega) _) | (with_reducible refine bel_set ?_ (by omega) _))))) (HQ.out.up (by (repeat (first | (with_reducible exact Below.refl _ _) | (with_reducible assumption) | (with_reducible apply bel_alloc) | (with_reducible apply bel_drew) | (with_reducible apply bel_drewN) | (with_reducible refine bel_trans ?_ (by with_reducible assumption)) | (with_reducible refine bel_trans ?_ (HF.out _)) | (with_reducible refine bel_set ?_ (by simp) _) | (with_reducible refine bel_set ?_ (by simp; omega) _) | (with_reducible refine bel_set ?_ (by omega) _))))) (HS.out.up (by (repeat (first | (with_reducible exact Below.refl _ _) | (with_reducible assumption) | (with_reducible apply bel_alloc) | (with_reducible apply bel_drew) | (with_reducible apply bel_drewN) | (with_reducible refine bel_trans ?_ (by with_reducible assumption)) | (with_reducible refine bel_trans ?_ (HF.out _)) | (with_reducible refine bel_set ?_ (by simp) _) | (with_reducible refine bel_set ?_ (by simp; omega) _) | (with_reducible refine bel_set ?_ (by omega) _))))) HY1.out).mono ?_; rintro e w1 ⟨rfl, hb1⟩; have hR1 := (show Blk ((w.alloc (.cells #[.slice pA pn pc, .slice qA qn qc, .slice sA sn sc, .int .i64 (cn : Int)] 68)).alloc (.cells #[.slice none 0 0, .slice none 0 0, .slice none 0 0, .int .i64 0] 68)) (w.heap.size + 1) 68 [.slice none 0 0, .slice none 0 0, .slice none 0 0, .int .i64 0] from by have := Blk.new (w.alloc (.cells #[.slice pA pn pc, .slice qA qn qc, .slice sA sn sc, .int .i64 (cn : Int)] 68)) 68 [.slice none 0 0, .slice none 0 0, .slice none 0 0, .int .i64 0]; simpa using this).up hb1; have hE1 := (show Blk ((w.alloc (.cells #[.slice pA pn pc, .slice qA qn qc, .slice sA sn sc, .int .i64 (cn : Int)] 68)).alloc (.cells #[.slice none 0 0, .slice none 0 0, .slice none 0 0, .int .i64 0] 68)) w.heap.size 68 [.slice pA pn pc, .slice qA qn qc, .slice sA sn sc, .int .i64 (cn : Int)] from (Blk.new w 68 [.slice pA pn pc, .slice qA qn qc, .slice sA sn sc, .int .i64 (cn : Int)]).up (by (repeat (first | (with_reducible exact Below.refl _ _) | (with_reducible assumption) | (with_reducible apply bel_alloc) | (with_reducible apply bel_drew) | (with_reducible apply bel_drewN) | (with_reducible refine bel_trans ?_ (by with_reducible assumption)) | (with_reducible refine bel_trans ?_ (HF.out _)) | (with_reducible refine bel_set ?_ (by simp) _) | (with_reducible refine bel_set ?_ (by simp; omega) _) | (with_reducible refine bel_set ?_ (by omega) _))))).up hb1; have hbw1 : Below w.heap.size w w1 := (by (repeat (first | (with_reducible exact Below.refl _ _) | (with_reducible assumption) | (with_reducible apply bel_alloc) | (with_reducible apply bel_drew) | (with_reducible apply bel_drewN) | (with_reducible refine bel_trans ?_ (by with_reducible assumption)) | (with_reducible refine bel_trans ?_ (HF.out _)) | (with_reducible refine bel_set ?_ (by simp) _) | (with_reducible refine bel_set ?_ (by simp; omega) _) | (with_reducible refine bel_set ?_ (by omega) _)))); have HR1 := Lib.hid hR1; have HE1 := Lib.hid hE1; have rf := hR1.frozen; have hrl := hR1.lt; have hel := hE1.lt; have g_0 := (hE1.box).2 0 _ rfl; have g_1 := (hE1.box).2 1 _ rfl; have g_2 := (hE1.box).2 2 _ rfl; have g_3 := (hE1.box).2 3 _ rfl; have k_0 := (hR1.box).2 0 _ rfl; have k_1 := (hR1.box).2 1 _ rfl; have k_2 := (hR1.box).2 2 _ rfl; have k_3 := (hR1.box).2 3 _ rfl; have hR6 := set4 hR1 (.slice none 0 0) (.slice none 0 0) (.slice none 0 0) (.int .i64 0); have r_0 := (hR6.box).2 0 _ rfl; have r_1 := (hR6.box).2 1 _ rfl; have r_2 := (hR6.box).2 2 _ rfl; have r_3 := (hR6.box).2 3 _ rfl; clear hR6 hR1 hE1)
      | (go_at_call 82; refine (worker_MayHeld lA ln lc l _ _ (HL.out.up hbw1) HY2.out).mono ?_; rintro e w2 ⟨rfl, hb2⟩; clear rf hrl hel g_0 g_1 g_2 g_3 k_0 k_1 k_2 k_3 r_0 r_1 r_2 r_3; have hR2 := HR1.out.up hb2; have hE2 := HE1.out.up hb2; have hbw2 : Below w.heap.size w w2 := bel_trans hbw1 hb2; have HR2 := Lib.hid hR2; have HE2 := Lib.hid hE2; have rf := hR2.frozen; have hrl := hR2.lt; have hel := hE2.lt; have g_0 := (hE2.box).2 0 _ rfl; have g_1 := (hE2.box).2 1 _ rfl; have g_2 := (hE2.box).2 2 _ rfl; have g_3 := (hE2.box).2 3 _ rfl; have k_0 := (hR2.box).2 0 _ rfl; have k_1 := (hR2.box).2 1 _ rfl; have k_2 := (hR2.box).2 2 _ rfl; have k_3 := (hR2.box).2 3 _ rfl; have hR6 := set4 hR2 (.slice none 0 0) (.slice none 0 0) (.slice none 0 0) (.int .i64 0); have r_0 := (hR6.box).2 0 _ rfl; have r_1 := (hR6.box).2 1 _ rfl; have r_2 := (hR6.box).2 2 _ rfl; have r_3 := (hR6.box).2 3 _ rfl; clear hR6 hR2 hE2)
      | (go_at_call 81; refine (exec_Own pA qA sA pn pc qn qc sn sc p q s (cn : Int) _ (HP.out.up hbw2) (HQ.out.up hbw2) (HS.out.up hbw2) (by omega) (by omega) (by omega)).mono ?_; rintro e w3 ⟨vp, va, vs, rfl, hex, hb3⟩; obtain ⟨Ap, cp, rfl, hpr⟩ := nmP hex.p HP.out.1 (by omega); obtain ⟨Aa, ca, rfl, har⟩ := nmA hex.a HQ.out.1 (by omega); obtain ⟨As, cs, rfl, hsr⟩ := nmI hex.s HS.out.1 (by omega); have HEX := Lib.hid hex; have HPR := Lib.hid hpr; have HAR := Lib.hid har; have HSR := Lib.hid hsr; clear hex hpr har hsr; have hbw3 := bel_trans hbw2 hb3; have hz3 := hb3.size)
      | (go_at_call 83; refine (exec_Run w2.heap.size Ap Aa As lA pn cp qn ca sn cs ln lc cn p q s l FP FQ N _ HEX.out HPR.out HAR.out HSR.out HMT.out (HL.out.up hbw3) (hdB_iff.1 HY2.out) hcn (by omega) (by omega) hz3 HRR.out).mono ?_; rintro e w4 ⟨vp4, va4, rfl, hx4, hb4⟩; obtain ⟨n5, hn5⟩ : ∃ n5, FP.length = n5 := ⟨_, rfl⟩; obtain ⟨n6, hn6⟩ : ∃ n6, FQ.length = n6 := ⟨_, rfl⟩; have hn5l : n5 ≤ 4096 := (by rw [← hn5]; exact HMF.out.1.1.1); have hn6l : n6 ≤ 4096 := (by rw [← hn6]; exact HMF.out.1.2.1); obtain ⟨A5, c5, rfl, _⟩ := nmP hx4.p hn5 (by omega); obtain ⟨A6, c6, rfl, _⟩ := nmA hx4.a hn6 (by omega); have HX4 := Lib.hid hx4; clear hx4 hn5 hn6; have hb24 := bel_trans hb3 hb4; have hE5 := HE2.out.up hb24; have hR5 := HR2.out.up hb24; have HE5 := Lib.hid hE5; have HR5 := Lib.hid hR5; clear rf hrl hel g_0 g_1 g_2 g_3 k_0 k_1 k_2 k_3 r_0 r_1 r_2 r_3; have d_0 := (hE5.box).2 0 _ rfl; have d_1 := (hE5.box).2 1 _ rfl; have d_2 := (hE5.box).2 2 _ rfl; have d_3 := (hE5.box).2 3 _ rfl; have df := hE5.frozen; have hbl5 := hE5.lt; have hrl5 := hR5.lt; have rf := hR5.frozen; have k_0 := (hR5.box).2 0 _ rfl; have k_1 := (hR5.box).2 1 _ rfl; have k_2 := (hR5.box).2 2 _ rfl; have k_3 := (hR5.box).2 3 _ rfl; clear hE5 hR5))
  have hw2 : w.heap.size + 2 ≤ w2.heap.size := HR2.out.lt
  have hNs := HMF.out.2
  have hR6 := (((HR5.out.far (p := ⟨w.heap.size, 0, none⟩) (by simp) (.slice A5 n5 c5)).far (p := ⟨w.heap.size, 1, none⟩) (by simp) (.slice A6 n6 c6)).far (p := ⟨w.heap.size, 2, none⟩) (by simp) (.slice As sn cs)).far (p := ⟨w.heap.size, 3, none⟩) (by simp) (.int .i64 ((cn : Int) + (N : Int)))
  have hR7 := set4 hR6 (.slice A5 n5 c5) (.slice A6 n6 c6) (.slice As sn cs) (.int .i64 ((cn : Int) + (N : Int)))
  have r_0 := (hR7.box).2 0 _ rfl; have r_1 := (hR7.box).2 1 _ rfl; have r_2 := (hR7.box).2 2 _ rfl; have r_3 := (hR7.box).2 3 _ rfl
  have hb14 : Below w.heap.size w w4 := bel_trans hbw2 hb24
  exact bodyPost_ret (v := .tuple #[.agg #[.slice A5 n5 c5, .slice A6 n6 c6, .slice As sn cs, .int .i64 ((cn : Int) + (N : Int))], .int .i64 N, .int .i64 0]) (by simp [results, Try.results40, go_sem, r_0, r_1, r_2, r_3]) rfl ⟨_, _, _, rfl, ((((((((HX4.out.set (by omega) _).set (by omega) _).set (by omega) _).set (by omega) _).set (by omega) _).set (by omega) _).set (by omega) _).set (by omega) _).mono (by omega), by (repeat (first | (with_reducible exact Below.refl _ _) | (with_reducible assumption) | (with_reducible apply bel_alloc) | (with_reducible apply bel_drew) | (with_reducible apply bel_drewN) | (with_reducible refine bel_trans ?_ (by with_reducible assumption)) | (with_reducible refine bel_trans ?_ (HF.out _)) | ((with_reducible refine bel_set3 ?_ ?_); rotate_left; omega)))⟩
theorem IntsR.box {w : World} {g : Nat} {l : List Int} (h : BoxR w g (l.map (Value.int .i64))) (hl : l.length ≤ 9223372036854775807) : IntsR w (some ⟨g, 0, none⟩) l.length l :=
  ⟨rfl, hl, fun _ => ⟨g, 0, rfl, h.1, fun j hj => by rw [Nat.zero_add]; exact h.2 j _ (by simp [nth, hj])⟩⟩
def wkB : BatchD := ⟨1, 1, [wkX]⟩
def wkH : HeldD := ⟨3, wkB⟩
theorem wk23_may0 : exB [] [] [] 0 = true := exB_iff.2 ⟨MayT.nil, ⟨fun j hj => absurd hj (by simp), List.nodup_nil⟩, by omega, by simp⟩
theorem wk23_dig : betS [3] 1 65536 = true := betD_iff.2 (by
  intro j hj
  have : j = 0 := by simpa using hj
  subst this
  simp [nth])
theorem wk23_fresh : freshL [] [3] = [3] := by simp [freshL]
theorem wk23_may1 : exB [] [] [3] ((0 : Nat) : Int) = true := exB_iff.2 ⟨MayT.nil, ⟨betD_iff.1 wk23_dig, by simp⟩, by omega, by simp⟩
theorem wk23_tx : txS wkX = true := (okT_iff.1 wk_ok22).1
theorem wk23_held : hdB [wkH] = true := hdB_iff.2 (by
  intro k hk
  have : k = 0 := by simpa using hk
  subst this
  refine ⟨by decide, bmT_iff.2 ⟨by decide, by decide, by decide, by decide, by decide, by decide, fun j hj => ?_⟩, fun h => absurd h (by omega)⟩
  have : j = 0 := by simp [hth, wkH, wkB] at hj; omega
  subst this
  exact wk23_tx)
theorem wk23_pos : kposH [wkH] 3 = 0 := by simp [kposH, cnt, wkH, ltI]
theorem wk23_has : khasH [wkH] 3 = true := dec_iff.2 ⟨by rw [wk23_pos]; simp, by rw [wk23_pos]; rfl⟩
theorem wk23_step : ∃ FP FQ, stepR [wkH] ([3] : List Int) [] [] = ((FP, FQ), 1) ∧ FP.length = 1 := by
  refine ⟨(runT [wkX] [] []).1, (runT [wkX] [] []).2, ?_, ?_⟩
  · unfold stepR
    rw [if_pos wk23_has, wk23_pos]
    rfl
  · have h := doP_yes wk_ok22
    show (doP [] [] wkX).length = 1
    rw [h.1]
    unfold setP
    have hv : ¬ wkX.v.size = 0 := by decide
    rw [if_neg hv, if_neg (by rw [khasP_nil]; simp)]
    simp [kposP, cnt]
set_option maxRecDepth 100000 in
set_option maxHeartbeats 4000000 in
theorem law23_wakes (w : World) : Calls Try.prog 41 #[] w fun e w' => e = .returned (.bool true) ∧ Below w.heap.size w w' := by
  obtain ⟨FP, FQ, hst, hfl⟩ := wk23_step
  have HST := Lib.hid hst
  have HFL := Lib.hid hfl
  clear hst hfl
  go_enter Try.func41, Try.ntmps41
  go_wp2_with fail
  have hI : IntsR (w.alloc (.cells #[.int .i64 3] 3)) (some ⟨w.heap.size, 0, none⟩) 1 [3] := IntsR.box (l := [3]) (BoxR.new w [.int .i64 3] 3) (by simp)
  refine (exec_Push_ok none none none (some ⟨w.heap.size, 0, none⟩) 0 0 0 0 0 0 1 1 [] [] [] [3] 0 _ (PairsR.nil0 _) (AcctsR.nil0 _) (IntsR.nil _ _) hI wk23_may0 wk23_dig (by omega) (by omega)).mono ?_
  rintro e w1 ⟨vp, va, vs, vf, rfl, hP, hb1⟩
  rw [wk23_fresh, List.nil_append] at hP
  obtain ⟨Ap, cp, rfl, hpr⟩ := nmP (n := 0) hP.e.p rfl (by omega)
  obtain ⟨Aa, ca, rfl, har⟩ := nmA (n := 0) hP.e.a rfl (by omega)
  obtain ⟨As, cs, rfl, hsr⟩ := nmI (n := 1) hP.e.s rfl (by omega)
  obtain ⟨Af, cf, rfl, _⟩ := nmI (n := 1) hP.f rfl (by omega)
  have hbw1 : Below w.heap.size w w1 := by (repeat (first | (with_reducible exact Below.refl _ _) | (with_reducible assumption) | (with_reducible apply bel_alloc) | (with_reducible apply bel_drew) | (with_reducible apply bel_drewN) | (with_reducible refine bel_trans ?_ (by with_reducible assumption)) | (with_reducible refine bel_trans ?_ (HF.out _)) | (with_reducible refine bel_set ?_ (by simp) _) | (with_reducible refine bel_set ?_ (by simp; omega) _) | (with_reducible refine bel_set ?_ (by omega) _)))
  have HPR := Lib.hid hpr
  have HAR := Lib.hid har
  have HSR := Lib.hid hsr
  clear hP hI hpr har hsr hb1
  go_wp2_with fail
  have hb2 : Below w1.heap.size w1 (((w1.alloc (.cells #[.slice Ap 0 cp, .slice Aa 0 ca, .slice As 1 cs, .int .i64 0] 68)).alloc (.cells #[.int .i64 1, .int .i64 1, .string { data := #[107] }, .string { data := #[118] }] 44)).alloc (.cells #[.int .i64 3, .int .i64 1, .int .i64 1, .slice (some ⟨w1.heap.size + 1, 0, none⟩) 1 1] 94)) := by (repeat (first | (with_reducible exact Below.refl _ _) | (with_reducible assumption) | (with_reducible apply bel_alloc) | (with_reducible apply bel_drew) | (with_reducible apply bel_drewN) | (with_reducible refine bel_trans ?_ (by with_reducible assumption)) | (with_reducible refine bel_trans ?_ (HF.out _)) | (with_reducible refine bel_set ?_ (by simp) _) | (with_reducible refine bel_set ?_ (by simp; omega) _) | (with_reducible refine bel_set ?_ (by omega) _)))
  have hX0 : BoxR (((w1.alloc (.cells #[.slice Ap 0 cp, .slice Aa 0 ca, .slice As 1 cs, .int .i64 0] 68)).alloc (.cells #[.int .i64 1, .int .i64 1, .string { data := #[107] }, .string { data := #[118] }] 44)).alloc (.cells #[.int .i64 3, .int .i64 1, .int .i64 1, .slice (some ⟨w1.heap.size + 1, 0, none⟩) 1 1] 94)) (w1.heap.size + 1) (encX wkX) := by
    have := (BoxR.new (w1.alloc (.cells #[.slice Ap 0 cp, .slice Aa 0 ca, .slice As 1 cs, .int .i64 0] 68)) [.int .i64 1, .int .i64 1, .string { data := #[107] }, .string { data := #[118] }] 44).up (w' := (((w1.alloc (.cells #[.slice Ap 0 cp, .slice Aa 0 ca, .slice As 1 cs, .int .i64 0] 68)).alloc (.cells #[.int .i64 1, .int .i64 1, .string { data := #[107] }, .string { data := #[118] }] 44)).alloc (.cells #[.int .i64 3, .int .i64 1, .int .i64 1, .slice (some ⟨w1.heap.size + 1, 0, none⟩) 1 1] 94))) (by (repeat (first | (with_reducible exact Below.refl _ _) | (with_reducible assumption) | (with_reducible apply bel_alloc) | (with_reducible apply bel_drew) | (with_reducible apply bel_drewN) | (with_reducible refine bel_trans ?_ (by with_reducible assumption)) | (with_reducible refine bel_trans ?_ (HF.out _)) | (with_reducible refine bel_set ?_ (by simp) _) | (with_reducible refine bel_set ?_ (by simp; omega) _) | (with_reducible refine bel_set ?_ (by omega) _))))
    have e : (w1.alloc (.cells #[.slice Ap 0 cp, .slice Aa 0 ca, .slice As 1 cs, .int .i64 0] 68)).heap.size = w1.heap.size + 1 := by simp
    rw [e] at this
    exact this
  have hX1 : BoxR (((w1.alloc (.cells #[.slice Ap 0 cp, .slice Aa 0 ca, .slice As 1 cs, .int .i64 0] 68)).alloc (.cells #[.int .i64 1, .int .i64 1, .string { data := #[107] }, .string { data := #[118] }] 44)).alloc (.cells #[.int .i64 3, .int .i64 1, .int .i64 1, .slice (some ⟨w1.heap.size + 1, 0, none⟩) 1 1] 94)) (w1.heap.size + 1 + 1) [.int .i64 3, .int .i64 1, .int .i64 1, .slice (some ⟨w1.heap.size + 1, 0, none⟩) 1 1] := BoxR.new' _ _ _ (by simp)
  have hXE : Blk (((w1.alloc (.cells #[.slice Ap 0 cp, .slice Aa 0 ca, .slice As 1 cs, .int .i64 0] 68)).alloc (.cells #[.int .i64 1, .int .i64 1, .string { data := #[107] }, .string { data := #[118] }] 44)).alloc (.cells #[.int .i64 3, .int .i64 1, .int .i64 1, .slice (some ⟨w1.heap.size + 1, 0, none⟩) 1 1] 94)) w1.heap.size 68 [.slice Ap 0 cp, .slice Aa 0 ca, .slice As 1 cs, .int .i64 0] := (Blk.new w1 68 [.slice Ap 0 cp, .slice Aa 0 ca, .slice As 1 cs, .int .i64 0]).up (by (repeat (first | (with_reducible exact Below.refl _ _) | (with_reducible assumption) | (with_reducible apply bel_alloc) | (with_reducible apply bel_drew) | (with_reducible apply bel_drewN) | (with_reducible refine bel_trans ?_ (by with_reducible assumption)) | (with_reducible refine bel_trans ?_ (HF.out _)) | (with_reducible refine bel_set ?_ (by simp) _) | (with_reducible refine bel_set ?_ (by simp; omega) _) | (with_reducible refine bel_set ?_ (by omega) _))))
  generalize (((w1.alloc (.cells #[.slice Ap 0 cp, .slice Aa 0 ca, .slice As 1 cs, .int .i64 0] 68)).alloc (.cells #[.int .i64 1, .int .i64 1, .string { data := #[107] }, .string { data := #[118] }] 44)).alloc (.cells #[.int .i64 3, .int .i64 1, .int .i64 1, .slice (some ⟨w1.heap.size + 1, 0, none⟩) 1 1] 94)) = X at *
  have hT : TxsR X (some ⟨w1.heap.size + 1, 0, none⟩) 1 [wkX] := ⟨rfl, by simp [flat, encX], by omega, fun _ => ⟨_, _, rfl, hX0.1, fun j u hj => by rw [Nat.zero_add]; exact hX0.2 j u (by simpa [flat] using hj)⟩⟩
  have hH : HeldsR X (some ⟨w1.heap.size + 1 + 1, 0, none⟩) 1 [wkH] := ⟨rfl, by omega, fun _ => ⟨_, _, rfl, hX1.1, fun j hj => by
    obtain rfl : j = 0 := by omega
    exact ⟨_, _, _, ⟨hX1.2 0 _ rfl, hX1.2 1 _ rfl, hX1.2 2 _ rfl, hX1.2 3 _ rfl⟩, hT⟩⟩⟩
  have HXE := Lib.hid hXE
  clear hX0 hX1 hXE hT
  refine (exec_Step_ok Ap Aa As (some ⟨w1.heap.size + 1 + 1, 0, none⟩) 0 cp 0 ca 1 cs 1 1 [] [] [3] [wkH] 0 FP FQ 1 _ (HPR.out.up hb2) (HAR.out.up hb2) (HSR.out.up hb2) hH wk23_may1 wk23_held (by omega) (by omega) HST.out).mono ?_
  rintro e w2 ⟨vp2, va2, vs2, rfl, hE, hb3⟩
  obtain ⟨Ap2, cp2, rfl, _⟩ := nmP hE.p HFL.out (by omega)
  obtain ⟨n6, hn6⟩ : ∃ n6, FQ.length = n6 := ⟨_, rfl⟩
  have hq4 : n6 ≤ 4096 := by rw [← hn6]; have := (stepR_may [wkH] [3] MayT.nil).1.2.1; rw [HST.out] at this; exact this
  obtain ⟨Aa2, ca2, rfl, _⟩ := nmA hE.a hn6 (by omega)
  obtain ⟨As2, cs2, rfl, _⟩ := nmI (n := 1) hE.s rfl (by omega)
  have hXE2 := HXE.out.up hb3
  have x_0 := (hXE2.box).2 0 _ rfl; have x_1 := (hXE2.box).2 1 _ rfl; have x_2 := (hXE2.box).2 2 _ rfl; have x_3 := (hXE2.box).2 3 _ rfl
  have hxf := hXE2.frozen
  have hxl := hXE2.lt
  have hX5 := set4 hXE2 (.slice Ap2 1 cp2) (.slice Aa2 n6 ca2) (.slice As2 1 cs2) (.int .i64 (((0 : Nat) : Int) + ((1 : Nat) : Int)))
  have y_0 := (hX5.box).2 0 _ rfl; have y_1 := (hX5.box).2 1 _ rfl; have y_2 := (hX5.box).2 2 _ rfl; have y_3 := (hX5.box).2 3 _ rfl
  have hbw2 : Below w.heap.size w w2 := by (repeat (first | (with_reducible exact Below.refl _ _) | (with_reducible assumption) | (with_reducible apply bel_alloc) | (with_reducible apply bel_drew) | (with_reducible apply bel_drewN) | (with_reducible refine bel_trans ?_ (by with_reducible assumption)) | (with_reducible refine bel_trans ?_ (HF.out _)) | (with_reducible refine bel_set ?_ (by simp) _) | (with_reducible refine bel_set ?_ (by simp; omega) _) | (with_reducible refine bel_set ?_ (by omega) _)))
  have hzw := hbw1.size
  clear hE hXE2 hX5 hn6
  go_wp2_with (go_at_call 38; refine (law23_num _ _).mono ?_; rintro e w' ⟨rfl, rfl⟩)
  go_ret
  exact ⟨rfl, by (repeat (first | (with_reducible exact Below.refl _ _) | (with_reducible assumption) | (with_reducible apply bel_alloc) | (with_reducible apply bel_drew) | (with_reducible apply bel_drewN) | (with_reducible refine bel_trans ?_ (by with_reducible assumption)) | (with_reducible refine bel_trans ?_ (HF.out _)) | ((with_reducible refine bel_set3 ?_ ?_); rotate_left; omega)))⟩
/-- Where a digest is held, one by one; -1: nowhere. -/
def hatF (d : Int) : Int → List HeldD → Int
  | _, [] => -1
  | i, c :: l => if c.di = d then i else hatF d (i + 1) l
def hatS (l : List HeldD) (d : Int) : Int := hatF d 0 l
theorem drop_hth (l : List HeldD) (k : Nat) (h : k < l.length) : l.drop k = hth l k :: l.drop (k + 1) := by
  rw [List.drop_eq_getElem_cons h]; simp [hth, h]
theorem hatF_step (d : Int) (l : List HeldD) (k : Nat) (h : k < l.length) : hatF d k (l.drop k) = if (hth l k).di = d then (k : Int) else hatF d ((k + 1 : Nat) : Int) (l.drop (k + 1)) := by
  rw [drop_hth l k h, hatF]; simp
theorem hatF_neg (d : Int) : ∀ (l : List HeldD) (i : Int), 0 ≤ i → (hatF d i l < 0 ↔ ∀ x ∈ l, x.di ≠ d)
  | [], i, h => by simp [hatF]
  | c :: l, i, h => by
    unfold hatF
    by_cases e : c.di = d
    · rw [if_pos e]; simp [e]; omega
    · rw [if_neg e, hatF_neg d l (i + 1) (by omega)]; simp [e]
theorem hatF_some (d : Int) : ∀ (l : List HeldD) (i : Nat), 0 ≤ hatF d i l → ∃ j, j < l.length ∧ hatF d i l = ((i + j : Nat) : Int) ∧ (hth l j).di = d
  | [], i, h => by simp [hatF] at h
  | c :: l, i, h => by
    unfold hatF at h ⊢
    by_cases e : c.di = d
    · rw [if_pos e]; exact ⟨0, by simp, by simp, e⟩
    · rw [if_neg e] at h ⊢
      have h' : 0 ≤ hatF d ((i + 1 : Nat) : Int) l := by simpa using h
      obtain ⟨j, hj, h1, h2⟩ := hatF_some d l (i + 1) h'
      refine ⟨j + 1, by simp; omega, ?_, by simpa [hth] using h2⟩
      have h1' : hatF d ((i : Int) + 1) l = ((i + 1 + j : Nat) : Int) := by simpa using h1
      rw [h1']; congr 1; omega
theorem hat_has {l : List HeldD} (hH : MayHs l) (d : Int) : hatS l d < 0 ↔ khasH l d = false := by
  unfold hatS
  rw [hatF_neg d l 0 (by omega)]
  constructor
  · intro h
    cases e : khasH l d
    · rfl
    · obtain ⟨j, hj, ej⟩ := (khasH_iff hH.sorted).1 e
      exact absurd ej (h _ (by unfold hth; simp [hj]))
  · intro h x hx ex
    obtain ⟨j, hj, e⟩ := List.getElem_of_mem hx
    have : khasH l d = true := (khasH_iff hH.sorted).2 ⟨j, hj, by simp [hth, hj, e, ex]⟩
    rw [h] at this; cases this
theorem hat_pos {l : List HeldD} (hH : MayHs l) {d : Int} (h : khasH l d = true) : hatS l d = (kposH l d : Int) := by
  have h0 : 0 ≤ hatS l d := by
    have := hat_has hH d
    rcases Int.lt_or_le (hatS l d) 0 with h1 | h1
    · rw [this.1 h1] at h; cases h
    · exact h1
  obtain ⟨j, hj, h1, h2⟩ := hatF_some d l 0 h0
  obtain ⟨k1, k2⟩ := khasH_lt rfl h
  have h1' : hatF d 0 l = ((0 + j : Nat) : Int) := by simpa using h1
  unfold hatS
  rw [h1']
  have hs := hH.sorted
  have : j = kposH l d := by
    rcases Nat.lt_trichotomy j (kposH l d) with g | g | g
    · have := hs _ _ g k1; rw [h2, k2] at this; simp [ltI] at this
    · exact g
    · have := hs _ _ g hj; rw [h2, k2] at this; simp [ltI] at this
  simp [this]
set_option maxRecDepth 100000 in
set_option maxHeartbeats 2000000 in
theorem ref22_at (A : Option Addr) (n c : Nat) (l : List HeldD) (d z : Int) (w : World) (hl : HeldsR w A n l) (hz : hatS l d = z) :
    Calls Try.prog 84 #[.slice A n c, .int .i64 d] w fun e w' => e = .returned (.int .i64 z) ∧ Below w.heap.size w w' := by
  have HL := Lib.hid hl
  have HN := Lib.hid hl.1
  have HZ := Lib.hid hz
  have hnn : n ≤ 9223372036854775807 := hl.2.1
  clear hl hz
  go_enter Try.func84, Try.ntmps84
  go_wp2_with fail
  go_loopw [5] (fun i wr => ∃ k : Nat, k ≤ n ∧ i = .int .i64 k ∧ Hid (hatF d k (l.drop k) = z) ∧ Below w.heap.size w wr) (fun i _ => n - (intOf i).toNat)
  case atStart => exact ⟨0, Nat.zero_le _, rfl, Lib.hid (by have := HZ.out; unfold hatS at this; simpa using this), Below.refl _ _⟩
  case round =>
    obtain ⟨k, hk, rfl, hr, hbw⟩ := hrel
    (obtain ⟨wk, hwk⟩ : ∃ x, x = wr := ⟨_, rfl⟩); subst hwk
    by_cases hlt : k < n
    · obtain ⟨b, off, rfl, hb, hc⟩ := (HL.out.up hbw).2.2 (by omega)
      obtain ⟨B, m, dd, ⟨c0, c1, c2, c3⟩, -⟩ := hc k hlt
      have hst := hatF_step d l k (by rw [HN.out]; exact hlt)
      rw [hr.out] at hst
      obtain ⟨y, hy⟩ : ∃ y, (hth l k).di = y := ⟨_, rfl⟩
      rw [hy] at hst c0
      have HST := Lib.hid hst
      clear hc c1 c2 c3 hst hy
      by_cases hyd : y = d
      · have hyb : (y == d) = true := by simpa using hyd
        have hz2 : z = (k : Int) := by rw [HST.out, if_pos hyd]
        clear hyd
        subst hz2
        go_wp2_with fail
        go_ret
        exact ⟨rfl, hbw⟩
      · have hyb : (y == d) = false := by simpa using hyd
        have HZ2 : Hid (hatF d ((k + 1 : Nat) : Int) (l.drop (k + 1)) = z) := Lib.hid (by rw [HST.out, if_neg hyd])
        clear hyd
        go_wp2_with fail
        (first | (go_round; (case rel => exact ⟨k + 1, by omega, by go_num, HZ2, hbw⟩); (case measure => (simp [intOf] <;> omega))) | (go_roundw; (case rel => exact ⟨k + 1, by omega, by go_num, HZ2, hbw⟩); (case measure => (simp [intOf] <;> omega))) | (refine ⟨?_, by simp [intOf] <;> omega⟩; (repeat apply Exists.intro); refine ⟨?rel, ?fr⟩; (case fr => ((repeat' apply And.intro) <;> rfl)); (case rel => exact ⟨k + 1, by omega, by go_num, HZ2, hbw⟩)))
    · have hz2 : z = -1 := by
        rw [← hr.out, List.drop_of_length_le (by rw [HN.out]; omega)]; rfl
      subst hz2
      go_wp2_with fail
      go_ret
      exact ⟨rfl, hbw⟩
theorem IntsR.set_far {w : World} {A : Option Addr} {n : Nat} {l : List Int} (h : IntsR w A n l) {g o : Nat} (hf : FarN A n g) (u : Value) : IntsR (w.setCell ⟨g, o, none⟩ u) A n l := by
  refine ⟨h.1, h.2.1, fun hn => ?_⟩
  obtain ⟨b, off, e, hb, hc⟩ := h.2.2 hn
  refine ⟨b, off, e, by simpa using hb, fun j hj => ?_⟩
  rw [← hc j hj]
  exact World.cell?_of_block (Below.heap_setCell _ _ _ _ ((hf.resolve_left (by omega)) b off none e))
theorem IntsR.farN {w : World} {A : Option Addr} {n : Nat} {l : List Int} (h : IntsR w A n l) {g : Nat} (hg : w.heap.size ≤ g) : FarN A n g := by
  rcases Nat.eq_zero_or_pos n with h0 | h0
  · exact .inl h0
  · obtain ⟨b, off, e, hb, _⟩ := h.2.2 h0
    exact .inr (fun b' o' s' e' => by rw [e] at e'; injection e' with e'; injection e' with e1; omega)
theorem OwnI.farN {w : World} {C : Nat} {A : Option Addr} {n c : Nat} {l : List Int} (h : OwnI w C (.slice A n c) l) {g : Nat} (hg : g < C) : FarN A n g := .inr (fun b o s e => by
  subst e
  rcases own_shape h with ⟨e2, _⟩ | ⟨g', c2, e2, hg', _⟩
  · injection e2 with e3; cases e3
  · injection e2 with e3; injection e3 with e3; injection e3 with e4; omega)
set_option maxRecDepth 100000 in
set_option maxHeartbeats 8000000 in
theorem ref22_Step (pA qA sA lA : Option Addr) (pn pc qn qc sn sc ln lc : Nat) (p : List PairD) (q : List AcctD) (s : List Int) (l : List HeldD) (cn : Nat) (FP : List PairD) (FQ : List AcctD) (N : Nat) (w : World) (hp : PairsR w pA pn p) (hq : AcctsR w qA qn q) (hs : IntsR w sA sn s) (hl : HeldsR w lA ln l) (h1 : exB p q s cn = true) (h2 : hdB l = true) (h3 : sn ≤ 1000000) (h4 : ln ≤ 1000000) (hR : stepR l (s.drop cn) p q = ((FP, FQ), N)) :
    Calls Try.prog 44 #[.agg #[.slice pA pn pc, .slice qA qn qc, .slice sA sn sc, .int .i64 cn], .slice lA ln lc] w fun e w' => ∃ (A' : Option Addr) (n' c' : Nat) (B' : Option Addr) (m' d' : Nat) (S' : Option Addr) (e' : Nat), e = .returned (.tuple #[.agg #[.slice A' n' c', .slice B' m' d', .slice S' sn e', .int .i64 ((cn : Int) + (N : Int))], .int .i64 N]) ∧ PairsR w' A' n' FP ∧ AcctsR w' B' m' FQ ∧ IntsR w' S' sn s ∧ (∀ g, g < w.heap.size → FarN A' n' g ∧ FarN B' m' g ∧ FarN S' sn g) ∧ Below w.heap.size w w' := by
  have HP := Lib.hid hp
  have HQ := Lib.hid hq
  have HS := Lib.hid hs
  have HN := Lib.hid hs.1
  have HL := Lib.hid hl
  have HLN := Lib.hid hl.1
  have HH : Hid (MayHs l) := Lib.hid (hdB_iff.1 h2)
  have hM := (exB_iff.1 h1).1
  have hpl : pn ≤ 4096 := by rw [← hp.1]; exact hM.1.1
  have hql : qn ≤ 4096 := by rw [← hq.1]; exact hM.2.1
  have hcn : cn ≤ sn := by have := (exB_iff.1 h1).2.2.2; rw [hs.1] at this; omega
  have HM := Lib.hid hM
  have HR := Lib.hid hR
  clear hp hq hs hl h1 h2 hM hR
  go_enter Try.func44, Try.ntmps44
  have hR0 : Blk ((w.alloc (.cells #[.slice pA pn pc, .slice qA qn qc, .slice sA sn sc, .int .i64 cn] 68)).alloc (.cells #[.slice none 0 0, .slice none 0 0, .slice none 0 0, .int .i64 0] 68)) (w.heap.size + 1) 68 [.slice none 0 0, .slice none 0 0, .slice none 0 0, .int .i64 0] := by have q := Blk.new (w.alloc (.cells #[.slice pA pn pc, .slice qA qn qc, .slice sA sn sc, .int .i64 cn] 68)) 68 [.slice none 0 0, .slice none 0 0, .slice none 0 0, .int .i64 0]; simpa using q
  have hB0 : BoxR ((w.alloc (.cells #[.slice pA pn pc, .slice qA qn qc, .slice sA sn sc, .int .i64 cn] 68)).alloc (.cells #[.slice none 0 0, .slice none 0 0, .slice none 0 0, .int .i64 0] 68)) w.heap.size [.slice pA pn pc, .slice qA qn qc, .slice sA sn sc, .int .i64 cn] := (BoxR.new w [.slice pA pn pc, .slice qA qn qc, .slice sA sn sc, .int .i64 cn] 68).up (by (repeat (first | (with_reducible exact Below.refl _ _) | (with_reducible assumption) | (with_reducible apply bel_alloc) | (with_reducible apply bel_drew) | (with_reducible apply bel_drewN) | (with_reducible refine bel_trans ?_ (by with_reducible assumption)) | (with_reducible refine bel_trans ?_ (HF.out _)) | (with_reducible refine bel_set ?_ (by simp) _) | (with_reducible refine bel_set ?_ (by simp; omega) _) | (with_reducible refine bel_set ?_ (by omega) _))))
  have HR0 := Lib.hid hR0
  have b_0 := (hB0).2 0 _ rfl; have b_1 := (hB0).2 1 _ rfl; have b_2 := (hB0).2 2 _ rfl; have b_3 := (hB0).2 3 _ rfl
  clear hR0 hB0
  go_wp2_with fail
  refine (ref0_CopyExec pA qA sA pn pc qn qc sn sc p q s cn _ (HP.out.up (by (repeat (first | (with_reducible exact Below.refl _ _) | (with_reducible assumption) | (with_reducible apply bel_alloc) | (with_reducible apply bel_drew) | (with_reducible apply bel_drewN) | (with_reducible refine bel_trans ?_ (by with_reducible assumption)) | (with_reducible refine bel_trans ?_ (HF.out _)) | (with_reducible refine bel_set ?_ (by simp) _) | (with_reducible refine bel_set ?_ (by simp; omega) _) | (with_reducible refine bel_set ?_ (by omega) _))))) (HQ.out.up (by (repeat (first | (with_reducible exact Below.refl _ _) | (with_reducible assumption) | (with_reducible apply bel_alloc) | (with_reducible apply bel_drew) | (with_reducible apply bel_drewN) | (with_reducible refine bel_trans ?_ (by with_reducible assumption)) | (with_reducible refine bel_trans ?_ (HF.out _)) | (with_reducible refine bel_set ?_ (by simp) _) | (with_reducible refine bel_set ?_ (by simp; omega) _) | (with_reducible refine bel_set ?_ (by omega) _))))) (HS.out.up (by (repeat (first | (with_reducible exact Below.refl _ _) | (with_reducible assumption) | (with_reducible apply bel_alloc) | (with_reducible apply bel_drew) | (with_reducible apply bel_drewN) | (with_reducible refine bel_trans ?_ (by with_reducible assumption)) | (with_reducible refine bel_trans ?_ (HF.out _)) | (with_reducible refine bel_set ?_ (by simp) _) | (with_reducible refine bel_set ?_ (by simp; omega) _) | (with_reducible refine bel_set ?_ (by omega) _))))) (by omega) (by omega) (by omega)).mono ?_
  rintro e w1 ⟨vp, va, vs, rfl, hEx, hb1⟩
  obtain ⟨Ap, cp, rfl, hP1⟩ := nmP hEx.p HP.out.1 (by omega)
  obtain ⟨Aa, ca, rfl, hA1⟩ := nmA hEx.a HQ.out.1 (by omega)
  obtain ⟨As, cs, rfl, hS1⟩ := nmI hEx.s HN.out (by omega)
  obtain ⟨g6, hg6⟩ : ∃ g, g = w1.heap.size := ⟨_, rfl⟩
  have hz1 := hb1.size
  have hsz : (((w.alloc (.cells #[.slice pA pn pc, .slice qA qn qc, .slice sA sn sc, .int .i64 cn] 68)).alloc (.cells #[.slice none 0 0, .slice none 0 0, .slice none 0 0, .int .i64 0] 68))).heap.size = w.heap.size + 2 := by simp
  have hG1 : Blk (w1.alloc (.cells #[.slice Ap pn cp, .slice Aa qn ca, .slice As sn cs, .int .i64 (cn)] 68)) g6 68 [.slice Ap pn cp, .slice Aa qn ca, .slice As sn cs, .int .i64 (cn)] := by rw [hg6]; exact Blk.new w1 68 [.slice Ap pn cp, .slice Aa qn ca, .slice As sn cs, .int .i64 (cn)]
  have HF0 : Hid (∀ g, g < w.heap.size + 2 ∨ g = g6 → FarN Ap pn g ∧ FarN Aa qn g) := Lib.hid (fun g hg => by
    rcases hg with h | h
    · exact ⟨hEx.p.farN (by rw [hsz]; exact h), hEx.a.farN (by rw [hsz]; exact h)⟩
    · exact ⟨hP1.farN (by omega), hA1.farN (by omega)⟩)
  have HFS : Hid (∀ g, g < w.heap.size + 2 ∨ g = g6 → FarN As sn g) := Lib.hid (fun g hg => by
    rcases hg with h | h
    · exact hEx.s.farN (by rw [hsz]; exact h)
    · exact hS1.farN (by omega))
  have HG1 := Lib.hid hG1
  have hgw : w.heap.size + 2 ≤ g6 := by omega
  have hbA : Below w1.heap.size w1 (w1.alloc (.cells #[.slice Ap pn cp, .slice Aa qn ca, .slice As sn cs, .int .i64 (cn)] 68)) := by (repeat (first | (with_reducible exact Below.refl _ _) | (with_reducible assumption) | (with_reducible apply bel_alloc) | (with_reducible apply bel_drew) | (with_reducible apply bel_drewN) | (with_reducible refine bel_trans ?_ (by with_reducible assumption)) | (with_reducible refine bel_trans ?_ (HF.out _)) | (with_reducible refine bel_set ?_ (by simp) _) | (with_reducible refine bel_set ?_ (by simp; omega) _) | (with_reducible refine bel_set ?_ (by omega) _)))
  have HP1 : Hid (PairsR (w1.alloc (.cells #[.slice Ap pn cp, .slice Aa qn ca, .slice As sn cs, .int .i64 (cn)] 68)) Ap pn p ∧ AcctsR (w1.alloc (.cells #[.slice Ap pn cp, .slice Aa qn ca, .slice As sn cs, .int .i64 (cn)] 68)) Aa qn q ∧ IntsR (w1.alloc (.cells #[.slice Ap pn cp, .slice Aa qn ca, .slice As sn cs, .int .i64 (cn)] 68)) As sn s) := Lib.hid ⟨hP1.up hbA, hA1.up hbA, hS1.up hbA⟩
  have HR1 := Lib.hid ((HR0.out.up hb1).up hbA)
  have hbw1 : Below w.heap.size w (w1.alloc (.cells #[.slice Ap pn cp, .slice Aa qn ca, .slice As sn cs, .int .i64 (cn)] 68)) := by (repeat (first | (with_reducible exact Below.refl _ _) | (with_reducible assumption) | (with_reducible apply bel_alloc) | (with_reducible apply bel_drew) | (with_reducible apply bel_drewN) | (with_reducible refine bel_trans ?_ (by with_reducible assumption)) | (with_reducible refine bel_trans ?_ (HF.out _)) | (with_reducible refine bel_set ?_ (by simp) _) | (with_reducible refine bel_set ?_ (by simp; omega) _) | (with_reducible refine bel_set ?_ (by omega) _)))
  clear hEx hP1 hA1 hS1 hG1 hbA b_0 b_1 b_2 b_3
  go_wp2_with fail
  rw [← hg6]
  clear hb1 hz1 hsz hg6
  go_loopw [7] (fun s7 wr => ∃ (k : Nat) (P : List PairD) (Q : List AcctD) (A : Option Addr) (n c : Nat) (B : Option Addr) (m d : Nat), cn + k ≤ sn ∧ s7 = .int .i64 k ∧ Hid (Blk wr g6 68 [.slice A n c, .slice B m d, .slice As sn cs, .int .i64 ((cn : Int) + (k : Int))]) ∧ Hid (PairsR wr A n P ∧ AcctsR wr B m Q ∧ IntsR wr As sn s) ∧ Hid (MayT P Q) ∧ Hid ((stepR l (s.drop (cn + k)) P Q).1 = (FP, FQ)) ∧ Hid (k + (stepR l (s.drop (cn + k)) P Q).2 = N) ∧ Hid (∀ g, g < w.heap.size + 2 ∨ g = g6 → FarN A n g ∧ FarN B m g) ∧ Hid (Blk wr (w.heap.size + 1) 68 [.slice none 0 0, .slice none 0 0, .slice none 0 0, .int .i64 0]) ∧ Below w.heap.size w wr) (fun s7 _ => sn - cn - (intOf s7).toNat)
  case atStart => exact ⟨0, p, q, Ap, pn, cp, Aa, qn, ca, by omega, rfl, Lib.hid (by simpa using HG1.out), HP1, HM, Lib.hid (by rw [Nat.add_zero, HR.out]), Lib.hid (by rw [Nat.add_zero, HR.out]; simp), HF0, HR1, hbw1⟩
  case round =>
    clear HG1 HP1 HR1 HF0 hbw1
    obtain ⟨k, P, Q, A, n, c, B, m, d, hk, rfl, HG, HPR, HM', HS1, HS2, HF, HRs, hbw⟩ := hrel
    (obtain ⟨wk, hwk⟩ : ∃ x, x = wr := ⟨_, rfl⟩); subst hwk
    have hgl := HG.out.lt
    have hrl0 := HRs.out.lt
    by_cases hlt : cn + k < sn
    · obtain ⟨sb, soff, rfl, hsb, hsc⟩ := HPR.out.2.2.2.2 (by omega)
      have hck := hsc (cn + k) hlt
      have htn : ((cn : Int) + (k : Int)).toNat = cn + k := by omega
      have hdl : decide ((cn : Int) + (k : Int) < (sn : Int)) = true := by simp; omega
      obtain ⟨x, hx⟩ : ∃ x, nth s (cn + k) = x := ⟨_, rfl⟩
      rw [hx] at hck
      have HKL : Hid (cn + k < s.length) := Lib.hid (by rw [HN.out]; exact hlt)
      have HXX := Lib.hid hx
      obtain ⟨z, hz⟩ : ∃ z, hatS l x = z := ⟨_, rfl⟩
      have HZ := Lib.hid hz
      clear hsc hx hz
      cases hh : khasH l x
      · have hz0 : decide (z < 0) = true := by rw [← HZ.out]; exact decide_eq_true ((hat_has HH.out x).2 hh)
        have hno := stepR_no HKL.out P Q (by rw [HXX.out]; exact hh)
        have h5 := HS1.out
        have h6 := HS2.out
        rw [hno] at h5 h6
        have e1 : P = FP ∧ Q = FQ := ⟨congrArg Prod.fst h5, congrArg Prod.snd h5⟩
        obtain ⟨rfl, rfl⟩ := e1
        have e2 : k = N := by simpa using h6
        subst e2
        clear hno h5 h6 hh
        have e_0 := (HG.out.box).2 0 _ rfl; have e_1 := (HG.out.box).2 1 _ rfl; have e_2 := (HG.out.box).2 2 _ rfl; have e_3 := (HG.out.box).2 3 _ rfl
        go_wp2_with fail
        refine (ref22_at lA ln lc l x z _ (HL.out.up (by (repeat (first | (with_reducible exact Below.refl _ _) | (with_reducible assumption) | (with_reducible apply bel_alloc) | (with_reducible apply bel_drew) | (with_reducible apply bel_drewN) | (with_reducible refine bel_trans ?_ (by with_reducible assumption)) | (with_reducible refine bel_trans ?_ (HF.out _)) | (with_reducible refine bel_set ?_ (by simp) _) | (with_reducible refine bel_set ?_ (by simp; omega) _) | (with_reducible refine bel_set ?_ (by omega) _))))) HZ.out).mono ?_
        rintro e w2 ⟨rfl, hb2⟩
        clear e_0 e_1 e_2 e_3
        have hrs := HRs.out.up hb2
        have hrf := hrs.frozen
        have hrl := hrs.lt
        have hRn := (((hrs.set_ 0 (.slice A n c)).set_ 1 (.slice B m d)).set_ 2 (.slice (some ⟨sb, soff, none⟩) sn cs)).set_ 3 (.int .i64 ((cn : Int) + (k : Int)))
        have s0 := hRn.box.2 0 _ rfl
        have s1 := hRn.box.2 1 _ rfl
        have s2 := hRn.box.2 2 _ rfl
        have s3 := hRn.box.2 3 _ rfl
        have hfr := HF.out (w.heap.size + 1) (.inl (by omega))
        have hfs := HFS.out (w.heap.size + 1) (.inl (by omega))
        have HFR := Lib.hid (And.intro hfr.1 (And.intro hfr.2 hfs))
        have HRW : Hid (PairsR w2 A n P ∧ AcctsR w2 B m Q ∧ IntsR w2 (some ⟨sb, soff, none⟩) sn s) := Lib.hid ⟨HPR.out.1.up hb2, HPR.out.2.1.up hb2, HPR.out.2.2.up hb2⟩
        have hbwx := bel_trans hbw hb2
        have r_0 := (hrs.box).2 0 _ rfl; have r_1 := (hrs.box).2 1 _ rfl; have r_2 := (hrs.box).2 2 _ rfl; have r_3 := (hrs.box).2 3 _ rfl
        have e_0 := ((HG.out.up hb2).box).2 0 _ rfl; have e_1 := ((HG.out.up hb2).box).2 1 _ rfl; have e_2 := ((HG.out.up hb2).box).2 2 _ rfl; have e_3 := ((HG.out.up hb2).box).2 3 _ rfl
        clear hRn hfr hfs hrs
        go_wp2_with fail
        exact bodyPost_ret (v := .tuple #[.agg #[.slice A n c, .slice B m d, .slice (some ⟨sb, soff, none⟩) sn cs, .int .i64 ((cn : Int) + (k : Int))], .int .i64 k]) (by simp [results, Try.results44, go_sem, s0, s1, s2, s3]) rfl ⟨A, n, c, B, m, d, (some ⟨sb, soff, none⟩), cs, rfl, (((HRW.out.1.set_far HFR.out.1 _).set_far HFR.out.1 _).set_far HFR.out.1 _).set_far HFR.out.1 _, (((HRW.out.2.1.set_far HFR.out.2.1 _).set_far HFR.out.2.1 _).set_far HFR.out.2.1 _).set_far HFR.out.2.1 _, (((HRW.out.2.2.set_far HFR.out.2.2 _).set_far HFR.out.2.2 _).set_far HFR.out.2.2 _).set_far HFR.out.2.2 _, fun g hg => ⟨(HF.out g (.inl (by omega))).1, (HF.out g (.inl (by omega))).2, HFS.out g (.inl (by omega))⟩, (((hbwx.setCell (p := ⟨w.heap.size + 1, 0, none⟩) (by dsimp only; omega) _).setCell (p := ⟨w.heap.size + 1, 1, none⟩) (by dsimp only; omega) _).setCell (p := ⟨w.heap.size + 1, 2, none⟩) (by dsimp only; omega) _).setCell (p := ⟨w.heap.size + 1, 3, none⟩) (by dsimp only; omega) _⟩
      · obtain ⟨lo, hlo⟩ : ∃ lo, kposH l x = lo := ⟨_, rfl⟩
        have hzl : z = (lo : Int) := by rw [← HZ.out, hat_pos HH.out hh, hlo]
        subst hzl
        have hz0 : decide ((lo : Int) < 0) = false := by simp
        obtain ⟨hlol, hdi⟩ := khasH_lt hlo hh
        rw [HLN.out] at hlol
        obtain ⟨hb_, hoff, rfl, hhb, hhc⟩ := HL.out.2.2 (by omega)
        obtain ⟨xA, xm, xd, ⟨e0, e1, e2, e3⟩, htx⟩ := hhc lo hlol
        obtain ⟨bt, hbt⟩ : ∃ bt, (hth l lo).b = bt := ⟨_, rfl⟩
        have hbm : bmT bt = true := by rw [← hbt]; exact (HH.out lo (by rw [HLN.out]; exact hlol)).2.1
        rw [hbt] at e1 e2 htx
        have hxm : xm ≤ 8 := by rw [← htx.1]; exact (bmT_iff.1 hbm).2.2.2.2.2.1
        obtain ⟨⟨LF, QF⟩, hrt⟩ : ∃ r, runT bt.tx P Q = r := ⟨_, rfl⟩
        obtain ⟨M, hrn⟩ : ∃ r, runN bt.tx P Q = r := ⟨_, rfl⟩
        have HRT := Lib.hid hrt
        have HRN := Lib.hid hrn
        have HTX := Lib.hid htx
        have hrs := stepR_yes HKL.out P Q (by rw [HXX.out]; exact hh)
        rw [HXX.out, hlo, hbt, hrt] at hrs
        have h5 := HS1.out
        have h6 := HS2.out
        rw [hrs] at h5 h6
        dsimp only at h5 h6
        have H5 := Lib.hid h5
        have H6 := Lib.hid h6
        have HMN : Hid (MayT LF QF) := Lib.hid (by have := runT_may bt.tx HM'.out; rw [hrt] at this; exact this)
        have HCS : Hid (∀ Y, Below w.heap.size w Y → Y.cell? ⟨hb_, hoff + lo * 4 + 1, none⟩ = some (.int .i64 bt.au) ∧ Y.cell? ⟨hb_, hoff + lo * 4 + 2, none⟩ = some (.int .i64 bt.n) ∧ Y.cell? ⟨hb_, hoff + lo * 4 + 3, none⟩ = some (.slice xA xm xd)) := Lib.hid (fun Y hY => ⟨(hY.cell (p := ⟨hb_, hoff + lo * 4 + 1, none⟩) hhb).trans e1, (hY.cell (p := ⟨hb_, hoff + lo * 4 + 2, none⟩) hhb).trans e2, (hY.cell (p := ⟨hb_, hoff + lo * 4 + 3, none⟩) hhb).trans e3⟩)
        clear hhc htx hbt hbm hdi hh hlo hrt hrn hrs h5 h6 e0 e1 e2 e3
        have e_0 := (HG.out.box).2 0 _ rfl; have e_1 := (HG.out.box).2 1 _ rfl; have e_2 := (HG.out.box).2 2 _ rfl; have e_3 := (HG.out.box).2 3 _ rfl
        go_wp2_with fail
        refine (ref22_at (some ⟨hb_, hoff, none⟩) ln lc l x (lo : Int) _ (HL.out.up (by (repeat (first | (with_reducible exact Below.refl _ _) | (with_reducible assumption) | (with_reducible apply bel_alloc) | (with_reducible apply bel_drew) | (with_reducible apply bel_drewN) | (with_reducible refine bel_trans ?_ (by with_reducible assumption)) | (with_reducible refine bel_trans ?_ (HF.out _)) | (with_reducible refine bel_set ?_ (by simp) _) | (with_reducible refine bel_set ?_ (by simp; omega) _) | (with_reducible refine bel_set ?_ (by omega) _))))) HZ.out).mono ?_
        rintro e w2 ⟨rfl, hb2⟩
        have hbw2 := bel_trans hbw hb2
        have HG2 := Lib.hid (HG.out.up hb2)
        have HR2 := Lib.hid (HRs.out.up hb2)
        have HP2 : Hid (PairsR w2 A n P ∧ AcctsR w2 B m Q ∧ IntsR w2 (some ⟨sb, soff, none⟩) sn s) := Lib.hid ⟨HPR.out.1.up hb2, HPR.out.2.1.up hb2, HPR.out.2.2.up hb2⟩
        have hg2l := HG2.out.lt
        clear e_0 e_1 e_2 e_3
        have e_0 := (HG2.out.box).2 0 _ rfl; have e_1 := (HG2.out.box).2 1 _ rfl; have e_2 := (HG2.out.box).2 2 _ rfl; have e_3 := (HG2.out.box).2 3 _ rfl
        obtain ⟨h_1, h_2, h_3⟩ := HCS.out w2 hbw2
        go_upto_region 6 with fail
        go_region_law (first | (go_wp2_with (go_at_call 29; refine (ref22_Batch A n c P B m d Q bt.au bt.n xA xm xd bt.tx LF QF M _ (HP2.out.1.up (by (repeat (first | (with_reducible exact Below.refl _ _) | (with_reducible assumption) | (with_reducible apply bel_alloc) | (with_reducible apply bel_drew) | (with_reducible apply bel_drewN) | (with_reducible refine bel_trans ?_ (by with_reducible assumption)) | (with_reducible refine bel_trans ?_ (HF.out _)) | (with_reducible refine bel_set ?_ (by simp) _) | (with_reducible refine bel_set ?_ (by simp; omega) _) | (with_reducible refine bel_set ?_ (by omega) _))))) (HP2.out.2.1.up (by (repeat (first | (with_reducible exact Below.refl _ _) | (with_reducible assumption) | (with_reducible apply bel_alloc) | (with_reducible apply bel_drew) | (with_reducible apply bel_drewN) | (with_reducible refine bel_trans ?_ (by with_reducible assumption)) | (with_reducible refine bel_trans ?_ (HF.out _)) | (with_reducible refine bel_set ?_ (by simp) _) | (with_reducible refine bel_set ?_ (by simp; omega) _) | (with_reducible refine bel_set ?_ (by omega) _))))) (HTX.out.up (bel_trans hbw2 (by (repeat (first | (with_reducible exact Below.refl _ _) | (with_reducible assumption) | (with_reducible apply bel_alloc) | (with_reducible apply bel_drew) | (with_reducible apply bel_drewN) | (with_reducible refine bel_trans ?_ (by with_reducible assumption)) | (with_reducible refine bel_trans ?_ (HF.out _)) | (with_reducible refine bel_set ?_ (by simp) _) | (with_reducible refine bel_set ?_ (by simp; omega) _) | (with_reducible refine bel_set ?_ (by omega) _)))))) HM'.out HRT.out HRN.out (by omega)).mono ?_; rintro e w7 ⟨A7, n7, c7, B7, m7, d7, rfl, hP7, hA7, hF7, hb7⟩; have HP7 := Lib.hid hP7; have HA7 := Lib.hid hA7; have HF7 := Lib.hid hF7; clear hF7 hP7 hA7; have hb27 : Below w2.heap.size w2 w7 := (by (repeat (first | (with_reducible exact Below.refl _ _) | (with_reducible assumption) | (with_reducible apply bel_alloc) | (with_reducible apply bel_drew) | (with_reducible apply bel_drewN) | (with_reducible refine bel_trans ?_ (by with_reducible assumption)) | (with_reducible refine bel_trans ?_ (HF.out _)) | (with_reducible refine bel_set ?_ (by simp) _) | (with_reducible refine bel_set ?_ (by simp; omega) _) | (with_reducible refine bel_set ?_ (by omega) _)))); have hG7 := HG2.out.up hb27; have hgl7 := hG7.lt; have hgf7 := hG7.frozen; have f_0 := (hG7.box).2 0 _ rfl; have f_1 := (hG7.box).2 1 _ rfl; have f_2 := (hG7.box).2 2 _ rfl; have f_3 := (hG7.box).2 3 _ rfl; have HG7 := Lib.hid hG7; clear hG7)))
        all_goals
          have hf0 := HF7.out g6 (by simpa using hg2l) (HF.out g6 (.inr rfl)).1 (HF.out g6 (.inr rfl)).2
          have HF0 := Lib.hid hf0
          have hW : w.heap.size + 2 ≤ w2.heap.size := by omega
          have HFn : Hid (∀ g, g < w.heap.size + 2 ∨ g = g6 → FarN A7 n7 g ∧ FarN B7 m7 g) := Lib.hid (fun g hg => HF7.out g (by simp; omega) (HF.out g hg).1 (HF.out g hg).2)
          have HS7 : Hid (IntsR w7 (some ⟨sb, soff, none⟩) sn s) := Lib.hid (HP2.out.2.2.up hb27)
          have HR7 := Lib.hid (HR2.out.up hb27)
          have hbw7 := bel_trans hbw2 hb27
          clear hf0
          go_wp2_with fail
          (first | (go_round; (case rel => exact ⟨k + 1, LF, QF, A7, n7, c7, B7, m7, d7, by omega, by go_num, Lib.hid (by rw [show (cn : Int) + ((k + 1 : Nat) : Int) = (cn : Int) + (k : Int) + 1 by omega]; exact ((HG7.out.set_ 0 _).set_ 1 _).set_ 3 _), Lib.hid ⟨((HP7.out.set_far HF0.out.1 _).set_far HF0.out.1 _).set_far HF0.out.1 _, ((HA7.out.set_far HF0.out.2 _).set_far HF0.out.2 _).set_far HF0.out.2 _, ((HS7.out.set_far (HFS.out g6 (.inr rfl)) _).set_far (HFS.out g6 (.inr rfl)) _).set_far (HFS.out g6 (.inr rfl)) _⟩, HMN, Lib.hid (by rw [← Nat.add_assoc]; exact H5.out), Lib.hid (by rw [← Nat.add_assoc]; have := H6.out; omega), HFn, Lib.hid (((HR7.out.far (p := ⟨g6, 0, none⟩) (by dsimp only; omega) _).far (p := ⟨g6, 1, none⟩) (by dsimp only; omega) _).far (p := ⟨g6, 3, none⟩) (by dsimp only; omega) _), ((hbw7.setCell (p := ⟨g6, 0, none⟩) (by dsimp only; omega) _).setCell (p := ⟨g6, 1, none⟩) (by dsimp only; omega) _).setCell (p := ⟨g6, 3, none⟩) (by dsimp only; omega) _⟩); (case measure => (simp [intOf] <;> omega))) | (go_roundw; (case rel => exact ⟨k + 1, LF, QF, A7, n7, c7, B7, m7, d7, by omega, by go_num, Lib.hid (by rw [show (cn : Int) + ((k + 1 : Nat) : Int) = (cn : Int) + (k : Int) + 1 by omega]; exact ((HG7.out.set_ 0 _).set_ 1 _).set_ 3 _), Lib.hid ⟨((HP7.out.set_far HF0.out.1 _).set_far HF0.out.1 _).set_far HF0.out.1 _, ((HA7.out.set_far HF0.out.2 _).set_far HF0.out.2 _).set_far HF0.out.2 _, ((HS7.out.set_far (HFS.out g6 (.inr rfl)) _).set_far (HFS.out g6 (.inr rfl)) _).set_far (HFS.out g6 (.inr rfl)) _⟩, HMN, Lib.hid (by rw [← Nat.add_assoc]; exact H5.out), Lib.hid (by rw [← Nat.add_assoc]; have := H6.out; omega), HFn, Lib.hid (((HR7.out.far (p := ⟨g6, 0, none⟩) (by dsimp only; omega) _).far (p := ⟨g6, 1, none⟩) (by dsimp only; omega) _).far (p := ⟨g6, 3, none⟩) (by dsimp only; omega) _), ((hbw7.setCell (p := ⟨g6, 0, none⟩) (by dsimp only; omega) _).setCell (p := ⟨g6, 1, none⟩) (by dsimp only; omega) _).setCell (p := ⟨g6, 3, none⟩) (by dsimp only; omega) _⟩); (case measure => (simp [intOf] <;> omega))) | (refine ⟨?_, by simp [intOf] <;> omega⟩; (repeat apply Exists.intro); refine ⟨?rel, ?fr⟩; (case fr => ((repeat' apply And.intro) <;> rfl)); (case rel => exact ⟨k + 1, LF, QF, A7, n7, c7, B7, m7, d7, by omega, by go_num, Lib.hid (by rw [show (cn : Int) + ((k + 1 : Nat) : Int) = (cn : Int) + (k : Int) + 1 by omega]; exact ((HG7.out.set_ 0 _).set_ 1 _).set_ 3 _), Lib.hid ⟨((HP7.out.set_far HF0.out.1 _).set_far HF0.out.1 _).set_far HF0.out.1 _, ((HA7.out.set_far HF0.out.2 _).set_far HF0.out.2 _).set_far HF0.out.2 _, ((HS7.out.set_far (HFS.out g6 (.inr rfl)) _).set_far (HFS.out g6 (.inr rfl)) _).set_far (HFS.out g6 (.inr rfl)) _⟩, HMN, Lib.hid (by rw [← Nat.add_assoc]; exact H5.out), Lib.hid (by rw [← Nat.add_assoc]; have := H6.out; omega), HFn, Lib.hid (((HR7.out.far (p := ⟨g6, 0, none⟩) (by dsimp only; omega) _).far (p := ⟨g6, 1, none⟩) (by dsimp only; omega) _).far (p := ⟨g6, 3, none⟩) (by dsimp only; omega) _), ((hbw7.setCell (p := ⟨g6, 0, none⟩) (by dsimp only; omega) _).setCell (p := ⟨g6, 1, none⟩) (by dsimp only; omega) _).setCell (p := ⟨g6, 3, none⟩) (by dsimp only; omega) _⟩)))
    · have hkq : cn + k = sn := by omega
      have hdl : decide ((cn : Int) + (k : Int) < (sn : Int)) = false := by simp; omega
      have hend := stepR_end (l := l) (s := s) (k := cn + k) (by rw [HN.out]; omega) P Q
      have h5 := HS1.out
      have h6 := HS2.out
      rw [hend] at h5 h6
      have e1 : P = FP ∧ Q = FQ := ⟨congrArg Prod.fst h5, congrArg Prod.snd h5⟩
      obtain ⟨rfl, rfl⟩ := e1
      have e2 : k = N := by simpa using h6
      subst e2
      clear hend h5 h6
      have hb2 : Below wk.heap.size wk wk := Below.refl _ _
      have hrs := HRs.out.up hb2
      have hrf := hrs.frozen
      have hrl := hrs.lt
      have hRn := (((hrs.set_ 0 (.slice A n c)).set_ 1 (.slice B m d)).set_ 2 (.slice As sn cs)).set_ 3 (.int .i64 ((cn : Int) + (k : Int)))
      have s0 := hRn.box.2 0 _ rfl
      have s1 := hRn.box.2 1 _ rfl
      have s2 := hRn.box.2 2 _ rfl
      have s3 := hRn.box.2 3 _ rfl
      have hfr := HF.out (w.heap.size + 1) (.inl (by omega))
      have hfs := HFS.out (w.heap.size + 1) (.inl (by omega))
      have HFR := Lib.hid (And.intro hfr.1 (And.intro hfr.2 hfs))
      have HRW : Hid (PairsR wk A n P ∧ AcctsR wk B m Q ∧ IntsR wk As sn s) := Lib.hid ⟨HPR.out.1.up hb2, HPR.out.2.1.up hb2, HPR.out.2.2.up hb2⟩
      have hbwx := bel_trans hbw hb2
      have r_0 := (hrs.box).2 0 _ rfl; have r_1 := (hrs.box).2 1 _ rfl; have r_2 := (hrs.box).2 2 _ rfl; have r_3 := (hrs.box).2 3 _ rfl
      have e_0 := ((HG.out.up hb2).box).2 0 _ rfl; have e_1 := ((HG.out.up hb2).box).2 1 _ rfl; have e_2 := ((HG.out.up hb2).box).2 2 _ rfl; have e_3 := ((HG.out.up hb2).box).2 3 _ rfl
      clear hRn hfr hfs hrs
      go_wp2_with fail
      exact bodyPost_ret (v := .tuple #[.agg #[.slice A n c, .slice B m d, .slice As sn cs, .int .i64 ((cn : Int) + (k : Int))], .int .i64 k]) (by simp [results, Try.results44, go_sem, s0, s1, s2, s3]) rfl ⟨A, n, c, B, m, d, As, cs, rfl, (((HRW.out.1.set_far HFR.out.1 _).set_far HFR.out.1 _).set_far HFR.out.1 _).set_far HFR.out.1 _, (((HRW.out.2.1.set_far HFR.out.2.1 _).set_far HFR.out.2.1 _).set_far HFR.out.2.1 _).set_far HFR.out.2.1 _, (((HRW.out.2.2.set_far HFR.out.2.2 _).set_far HFR.out.2.2 _).set_far HFR.out.2.2 _).set_far HFR.out.2.2 _, fun g hg => ⟨(HF.out g (.inl (by omega))).1, (HF.out g (.inl (by omega))).2, HFS.out g (.inl (by omega))⟩, (((hbwx.setCell (p := ⟨w.heap.size + 1, 0, none⟩) (by dsimp only; omega) _).setCell (p := ⟨w.heap.size + 1, 1, none⟩) (by dsimp only; omega) _).setCell (p := ⟨w.heap.size + 1, 2, none⟩) (by dsimp only; omega) _).setCell (p := ⟨w.heap.size + 1, 3, none⟩) (by dsimp only; omega) _⟩
set_option maxRecDepth 100000 in
set_option maxHeartbeats 16000000 in
theorem law_ExecSteps (P : ScrP) (D : ScrD) (w : World) (h : ScrR w P D) :
    Calls Try.prog 11 #[P.val D] w fun e w' => e = .returned (.bool true) ∧ Below w.heap.size w w' := by
  obtain ⟨⟨pA, pn, pc⟩, ⟨qA, qn, qc⟩, ⟨sA, sn, sc⟩, ⟨lA, ln, lc⟩⟩ := P
  have H := Lib.hid h
  have HP : Hid (PairsR w pA pn D.e.p) := Lib.hid h.p
  have HQ : Hid (AcctsR w qA qn D.e.q) := Lib.hid h.q
  have HS : Hid (IntsR w sA sn D.e.s) := Lib.hid h.s
  have HL : Hid (ActsR w lA ln D.l) := Lib.hid h.l
  have hsc : sn ≤ sc := h.sc
  clear h
  obtain ⟨ec, hec⟩ : ∃ z, D.e.c = z := ⟨_, rfl⟩
  obtain ⟨yE, hyE⟩ : ∃ y, exB D.e.p D.e.q D.e.s ec = y := ⟨_, rfl⟩
  have HEC := Lib.hid hec
  have HYE := Lib.hid hyE
  have hheavy := law23_heavy ⟨⟨pA, pn, pc⟩, ⟨qA, qn, qc⟩, ⟨sA, sn, sc⟩, ⟨lA, ln, lc⟩⟩ D
  show Calls Try.prog 11 #[.agg #[.slice pA pn pc, .slice qA qn qc, .slice sA sn sc, .int .i64 D.e.c, .slice lA ln lc]] w _
  simp only [ScrP.val] at hheavy
  rw [hec] at hheavy ⊢
  have HHV := Lib.hid hheavy
  clear hheavy hec hyE
  go_enter Try.func11, Try.ntmps11
  go_wp2_with fail
  refine (HHV.out _ (H.out.up (by (repeat (first | (with_reducible exact Below.refl _ _) | (with_reducible assumption) | (with_reducible apply bel_alloc) | (with_reducible apply bel_drew) | (with_reducible apply bel_drewN) | (with_reducible refine bel_trans ?_ (by with_reducible assumption)) | (with_reducible refine bel_trans ?_ (HF.out _)) | (with_reducible refine bel_set ?_ (by simp) _) | (with_reducible refine bel_set ?_ (by simp; omega) _) | (with_reducible refine bel_set ?_ (by omega) _)))))).mono ?_
  rintro e w1 ⟨x, rfl, hx, hb1⟩
  cases x
  case true =>
    clear hx
    go_wp2_with fail
    go_ret
    exact ⟨rfl, by (repeat (first | (with_reducible exact Below.refl _ _) | (with_reducible assumption) | (with_reducible apply bel_alloc) | (with_reducible apply bel_drew) | (with_reducible apply bel_drewN) | (with_reducible refine bel_trans ?_ (by with_reducible assumption)) | (with_reducible refine bel_trans ?_ (HF.out _)) | (with_reducible refine bel_set ?_ (by simp) _) | (with_reducible refine bel_set ?_ (by simp; omega) _) | (with_reducible refine bel_set ?_ (by omega) _)))⟩
  case false =>
  have hLt := hx rfl
  have hp4 : pn ≤ 4000 := hLt.p
  have hq4 : qn ≤ 4000 := hLt.q
  have hs3 : sn ≤ 300 := hLt.s
  have hl1 : ln ≤ 100 := hLt.l
  have HLT := Lib.hid hLt
  have hB1 : BoxR w1 w.heap.size [.slice pA pn pc, .slice qA qn qc, .slice sA sn sc, .int .i64 ec, .slice lA ln lc] := (BoxR.new w [.slice pA pn pc, .slice qA qn qc, .slice sA sn sc, .int .i64 ec, .slice lA ln lc] 71).up hb1
  have hbw1 : Below w.heap.size w w1 := by (repeat (first | (with_reducible exact Below.refl _ _) | (with_reducible assumption) | (with_reducible apply bel_alloc) | (with_reducible apply bel_drew) | (with_reducible apply bel_drewN) | (with_reducible refine bel_trans ?_ (by with_reducible assumption)) | (with_reducible refine bel_trans ?_ (HF.out _)) | (with_reducible refine bel_set ?_ (by simp) _) | (with_reducible refine bel_set ?_ (by simp; omega) _) | (with_reducible refine bel_set ?_ (by omega) _)))
  have HB1 := Lib.hid hB1
  have hg1 := hB1.1
  have b_0 := (hB1).2 0 _ rfl; have b_1 := (hB1).2 1 _ rfl; have b_2 := (hB1).2 2 _ rfl; have b_3 := (hB1).2 3 _ rfl; have b_4 := (hB1).2 4 _ rfl
  clear hx hLt hb1 hB1
  cases yE
  case false =>
    go_wp2_with (go_at_call 34; refine (ref22_Exec pA qA sA pn pc qn qc sn sc D.e.p D.e.q D.e.s ec _ _ (HP.out.up hbw1) (HQ.out.up hbw1) (HS.out.up hbw1) hsc (by omega) HYE.out).mono ?_; rintro e w2 ⟨rfl, hb2⟩)
    go_ret
    exact ⟨rfl, by (repeat (first | (with_reducible exact Below.refl _ _) | (with_reducible assumption) | (with_reducible apply bel_alloc) | (with_reducible apply bel_drew) | (with_reducible apply bel_drewN) | (with_reducible refine bel_trans ?_ (by with_reducible assumption)) | (with_reducible refine bel_trans ?_ (HF.out _)) | (with_reducible refine bel_set ?_ (by simp) _) | (with_reducible refine bel_set ?_ (by simp; omega) _) | (with_reducible refine bel_set ?_ (by omega) _)))⟩
  case true =>
  go_wp2_with (go_at_call 34; refine (ref22_Exec pA qA sA pn pc qn qc sn sc D.e.p D.e.q D.e.s ec _ _ (HP.out.up hbw1) (HQ.out.up hbw1) (HS.out.up hbw1) hsc (by omega) HYE.out).mono ?_; rintro e w2 ⟨rfl, hb2⟩)
  have hbw2 : Below w.heap.size w w2 := by (repeat (first | (with_reducible exact Below.refl _ _) | (with_reducible assumption) | (with_reducible apply bel_alloc) | (with_reducible apply bel_drew) | (with_reducible apply bel_drewN) | (with_reducible refine bel_trans ?_ (by with_reducible assumption)) | (with_reducible refine bel_trans ?_ (HF.out _)) | (with_reducible refine bel_set ?_ (by simp) _) | (with_reducible refine bel_set ?_ (by simp; omega) _) | (with_reducible refine bel_set ?_ (by omega) _)))
  have HB2 := Lib.hid (HB1.out.up hb2)
  clear b_0 b_1 b_2 b_3 b_4 hg1 HB1 hbw1 hb2 HHV
  go_loopw [3] (fun ix wr => ∃ k : Nat, k ≤ ln ∧ ix = .int .i64 k ∧ Hid (BoxR wr w.heap.size [.slice pA pn pc, .slice qA qn qc, .slice sA sn sc, .int .i64 ec, .slice lA ln lc]) ∧ Below w.heap.size w wr) (fun ix _ => ln - (intOf ix).toNat)
  case atStart => exact ⟨0, Nat.zero_le _, rfl, HB2, hbw2⟩
  case round =>
    clear HB2 hbw2
    obtain ⟨k, hk, rfl, HB, hbw⟩ := hrel
    (obtain ⟨wk, hwk⟩ : ∃ x, x = wr := ⟨_, rfl⟩); subst hwk
    have b_0 := (HB.out).2 0 _ rfl; have b_1 := (HB.out).2 1 _ rfl; have b_2 := (HB.out).2 2 _ rfl; have b_3 := (HB.out).2 3 _ rfl; have b_4 := (HB.out).2 4 _ rfl
    have hg0 := HB.out.1
    by_cases hlt : k < ln ∧ k < 12
    · obtain ⟨hlt1, hlt2⟩ := hlt
      obtain ⟨ab, aoff, rfl, hab, hac⟩ := (HL.out.up hbw).2.2 (by omega)
      obtain ⟨A5, m5, d5, C5, k5, e5, c0, c1, c2, hI, hH⟩ := hac k hlt1
      obtain ⟨a, ha⟩ : ∃ a, acth D.l k = a := ⟨_, rfl⟩
      rw [ha] at c0 hI hH
      have ham : a ∈ D.l := by rw [← ha]; have := HL.out.1; simp [acth, show k < D.l.length by omega]
      have hk6 : k5 ≤ 6000 := by rw [← hH.1]; exact HLT.out.hi a ham
      have HH := Lib.hid hH
      have hck := c2
      clear hac ha hI hH c0 c1 ham
      go_wp2_with fail
      have hX0 : Blk (wk.alloc (.cells #[.slice none 0 0, .slice none 0 0, .slice none 0 0, .int .i64 0] 68)) wk.heap.size 68 [.slice none 0 0, .slice none 0 0, .slice none 0 0, .int .i64 0] := Blk.new wk 68 [.slice none 0 0, .slice none 0 0, .slice none 0 0, .int .i64 0]
      have hbX0 : Below wk.heap.size wk (wk.alloc (.cells #[.slice none 0 0, .slice none 0 0, .slice none 0 0, .int .i64 0] 68)) := by (repeat (first | (with_reducible exact Below.refl _ _) | (with_reducible assumption) | (with_reducible apply bel_alloc) | (with_reducible apply bel_drew) | (with_reducible apply bel_drewN) | (with_reducible refine bel_trans ?_ (by with_reducible assumption)) | (with_reducible refine bel_trans ?_ (HF.out _)) | (with_reducible refine bel_set ?_ (by simp) _) | (with_reducible refine bel_set ?_ (by simp; omega) _) | (with_reducible refine bel_set ?_ (by omega) _)))
      generalize (wk.alloc (.cells #[.slice none 0 0, .slice none 0 0, .slice none 0 0, .int .i64 0] 68)) = X0 at *
      obtain ⟨yh, hyh⟩ : ∃ y, hdB a.h = y := ⟨_, rfl⟩
      have HYH := Lib.hid hyh
      clear hyh
      refine (ref13_Held C5 k5 e5 a.h _ _ (HH.out.up hbX0) HYH.out).mono ?_
      rintro e X ⟨rfl, hb3⟩
      have hbX := bel_trans hbX0 hb3
      have hX := hX0.up hb3
      have hbwX : Below w.heap.size w X := bel_trans hbw hbX
      have hBX := HB.out.up hbX
      have hcX := (hbX.cell (p := ⟨ab, aoff + k * 3 + 2, none⟩) hab).trans c2
      clear b_0 b_1 b_2 b_3 b_4 c2 hX0
      have b_0 := (hBX).2 0 _ rfl; have b_1 := (hBX).2 1 _ rfl; have b_2 := (hBX).2 2 _ rfl; have b_3 := (hBX).2 3 _ rfl; have b_4 := (hBX).2 4 _ rfl
      have c2 := hcX
      have hgX := hBX.1
      have habX : ab < X.heap.size := Nat.lt_of_lt_of_le hab hbX.size
      have HCELLS : Hid (∀ Y, Below wk.heap.size wk Y → Y.cell? ⟨w.heap.size, 0, none⟩ = some (.slice pA pn pc) ∧ Y.cell? ⟨w.heap.size, 1, none⟩ = some (.slice qA qn qc) ∧ Y.cell? ⟨w.heap.size, 2, none⟩ = some (.slice sA sn sc) ∧ Y.cell? ⟨w.heap.size, 3, none⟩ = some (.int .i64 ec) ∧ Y.cell? ⟨w.heap.size, 4, none⟩ = some (.slice (some ⟨ab, aoff, none⟩) ln lc) ∧ Y.cell? ⟨ab, aoff + k * 3 + 2, none⟩ = some (.slice C5 k5 e5)) := Lib.hid (fun Y hY => by
        have q := (HB.out.up hY).2
        exact ⟨q 0 _ rfl, q 1 _ rfl, q 2 _ rfl, q 3 _ rfl, q 4 _ rfl, (hY.cell (p := ⟨ab, aoff + k * 3 + 2, none⟩) hab).trans hck⟩)
      have HX := Lib.hid hX
      have hxl := hX.lt
      have HHX := Lib.hid (HH.out.up hbX)
      have HPX := Lib.hid (HP.out.up hbwX)
      have HQX := Lib.hid (HQ.out.up hbwX)
      have HSX := Lib.hid (HS.out.up hbwX)
      have HBX := Lib.hid hBX
      clear hX hBX hcX
      cases yh
      case false =>
        have HNO : Hid (¬ (exB D.e.p D.e.q D.e.s ec = true ∧ hdB a.h = true)) := Lib.hid (fun h => by rw [HYH.out] at h; cases h.2)
        go_upto_region 10 with fail
        go_cut [7, 8, 9] from 49 to 61 (fun s7 s8 s9 wx => ∃ g : Nat, s7 = .pointer (some ⟨g, 0, none⟩) ∧ s8 = .int .i64 0 ∧ s9 = .int .i64 1 ∧ Blk wx g 68 [.slice none 0 0, .slice none 0 0, .slice none 0 0, .int .i64 0] ∧ Below X.heap.size X wx)
        case first =>
          clear b_0 b_1 b_2 b_3 b_4 c2
          go_region_held3 (fun Y => Y.cell? ⟨w.heap.size, 0, none⟩ = some (.slice pA pn pc) ∧ Y.cell? ⟨w.heap.size, 1, none⟩ = some (.slice qA qn qc) ∧ Y.cell? ⟨w.heap.size, 2, none⟩ = some (.slice sA sn sc) ∧ Y.cell? ⟨w.heap.size, 3, none⟩ = some (.int .i64 ec) ∧ Y.cell? ⟨w.heap.size, 4, none⟩ = some (.slice (some ⟨ab, aoff, none⟩) ln lc) ∧ Y.cell? ⟨ab, aoff + k * 3 + 2, none⟩ = some (.slice C5 k5 e5))
            (exact HCELLS.out _ (by (repeat (first | (with_reducible exact Below.refl _ _) | (with_reducible assumption) | (with_reducible apply bel_alloc) | (with_reducible apply bel_drew) | (with_reducible apply bel_drewN) | (with_reducible refine bel_trans ?_ (by with_reducible assumption)) | (with_reducible refine bel_trans ?_ (HF.out _)) | ((with_reducible refine bel_set3 ?_ ?_); rotate_left; omega)))))
            ((go_at_call 40; refine (exec_Step_bad pA qA sA C5 pn pc qn qc sn sc k5 e5 D.e.p D.e.q D.e.s a.h ec _ (HPX.out.up (by (repeat (first | (with_reducible exact Below.refl _ _) | (with_reducible assumption) | (with_reducible apply bel_alloc) | (with_reducible apply bel_drew) | (with_reducible apply bel_drewN) | (with_reducible refine bel_trans ?_ (by with_reducible assumption)) | (with_reducible refine bel_trans ?_ (HF.out _)) | (with_reducible refine bel_set ?_ (by simp) _) | (with_reducible refine bel_set ?_ (by simp; omega) _) | (with_reducible refine bel_set ?_ (by omega) _))))) (HQX.out.up (by (repeat (first | (with_reducible exact Below.refl _ _) | (with_reducible assumption) | (with_reducible apply bel_alloc) | (with_reducible apply bel_drew) | (with_reducible apply bel_drewN) | (with_reducible refine bel_trans ?_ (by with_reducible assumption)) | (with_reducible refine bel_trans ?_ (HF.out _)) | (with_reducible refine bel_set ?_ (by simp) _) | (with_reducible refine bel_set ?_ (by simp; omega) _) | (with_reducible refine bel_set ?_ (by omega) _))))) (HSX.out.up (by (repeat (first | (with_reducible exact Below.refl _ _) | (with_reducible assumption) | (with_reducible apply bel_alloc) | (with_reducible apply bel_drew) | (with_reducible apply bel_drewN) | (with_reducible refine bel_trans ?_ (by with_reducible assumption)) | (with_reducible refine bel_trans ?_ (HF.out _)) | (with_reducible refine bel_set ?_ (by simp) _) | (with_reducible refine bel_set ?_ (by simp; omega) _) | (with_reducible refine bel_set ?_ (by omega) _))))) (HHX.out.up (by (repeat (first | (with_reducible exact Below.refl _ _) | (with_reducible assumption) | (with_reducible apply bel_alloc) | (with_reducible apply bel_drew) | (with_reducible apply bel_drewN) | (with_reducible refine bel_trans ?_ (by with_reducible assumption)) | (with_reducible refine bel_trans ?_ (HF.out _)) | (with_reducible refine bel_set ?_ (by simp) _) | (with_reducible refine bel_set ?_ (by simp; omega) _) | (with_reducible refine bel_set ?_ (by omega) _))))) HNO.out).mono ?_; rintro e w7 ⟨rfl, hb7⟩; (try have hcA := fun o => (bcell hb7).1 X.heap.size o (by first | (simp; done) | (simp; omega) | omega)); (try have hfA := fun o => (bcell hb7).2 X.heap.size o (by first | (simp; done) | (simp; omega) | omega)); have hzA := hb7.size; (try simp at hzA)))
          · go_wp2_with fail
            go_meet
            exact ⟨_, rfl, rfl, rfl, Blk.new w7 68 [.slice none 0 0, .slice none 0 0, .slice none 0 0, .int .i64 0], by (repeat (first | (with_reducible exact Below.refl _ _) | (with_reducible assumption) | (with_reducible apply bel_alloc) | (with_reducible apply bel_drew) | (with_reducible apply bel_drewN) | (with_reducible refine bel_trans ?_ (by with_reducible assumption)) | (with_reducible refine bel_trans ?_ (HF.out _)) | ((with_reducible refine bel_set3 ?_ ?_); rotate_left; omega)))⟩
          · go_wp2_with fail
            go_meet
            have hk : Blk w7 X.heap.size 68 [.slice none 0 0, .slice none 0 0, .slice none 0 0, .int .i64 0] := Blk.up (Blk.new X.drew 68 [.slice none 0 0, .slice none 0 0, .slice none 0 0, .int .i64 0]) hb7
            exact ⟨_, rfl, rfl, rfl, set4 hk _ _ _ _, by (repeat (first | (with_reducible exact Below.refl _ _) | (with_reducible assumption) | (with_reducible apply bel_alloc) | (with_reducible apply bel_drew) | (with_reducible apply bel_drewN) | (with_reducible refine bel_trans ?_ (by with_reducible assumption)) | (with_reducible refine bel_trans ?_ (HF.out _)) | ((with_reducible refine bel_set3 ?_ ?_); rotate_left; omega)))⟩
        case rest =>
        obtain ⟨g, rfl, rfl, rfl, hG, hbc⟩ := hcut
        have HG := Lib.hid hG
        have HXc := Lib.hid (HX.out.up hbc)
        have hgl := hG.lt
        have hxlc := HXc.out.lt
        clear b_0 b_1 b_2 b_3 b_4 c2
        have g_0 := (hG.box).2 0 _ rfl; have g_1 := (hG.box).2 1 _ rfl; have g_2 := (hG.box).2 2 _ rfl; have g_3 := (hG.box).2 3 _ rfl
        have x_0 := (HXc.out.box).2 0 _ rfl; have x_1 := (HXc.out.box).2 1 _ rfl; have x_2 := (HXc.out.box).2 2 _ rfl; have x_3 := (HXc.out.box).2 3 _ rfl
        clear hG
        go_wp2_with (first
          | (go_at_call 38; refine (law23_num _ _).mono ?_; rintro e w' ⟨rfl, rfl⟩)
          | (go_at_call 39; refine (ref0_EqExec none none none none none none 0 0 0 0 0 0 0 0 0 0 0 0 [] [] [] 0 _ (PairsR.nil0 _) (AcctsR.nil0 _) (IntsR.nil _ _) (PairsR.nil0 _) (AcctsR.nil0 _) (IntsR.nil _ _)).mono ?_; rintro e w8 ⟨rfl, hb8⟩))
        have hbe : Below X.heap.size X w8 := bel_trans hbc hb8
        (first | (go_round; (case rel => exact ⟨k + 1, by omega, by go_num, Lib.hid (HBX.out.up hbe), bel_trans hbwX hbe⟩); (case measure => (simp [intOf] <;> omega))) | (go_roundw; (case rel => exact ⟨k + 1, by omega, by go_num, Lib.hid (HBX.out.up hbe), bel_trans hbwX hbe⟩); (case measure => (simp [intOf] <;> omega))) | (refine ⟨?_, by simp [intOf] <;> omega⟩; (repeat apply Exists.intro); refine ⟨?rel, ?fr⟩; (case fr => ((repeat' apply And.intro) <;> rfl)); (case rel => exact ⟨k + 1, by omega, by go_num, Lib.hid (HBX.out.up hbe), bel_trans hbwX hbe⟩)))
      case true =>
        have hec0 := (exB_iff.1 HYE.out).2.2
        obtain ⟨cn, hcn⟩ : ∃ cn : Nat, ec = (cn : Int) := ⟨ec.toNat, by omega⟩
        subst hcn
        obtain ⟨⟨⟨FP, FQ⟩, N⟩, hst⟩ : ∃ r, stepR a.h (D.e.s.drop cn) D.e.p D.e.q = r := ⟨_, rfl⟩
        have hmf := stepR_may a.h (D.e.s.drop cn) (exB_iff.1 HYE.out).1
        rw [hst] at hmf
        have HMF := Lib.hid hmf.1
        have HST := Lib.hid hst
        clear hec0 hst hmf
        go_upto_region 9 with fail
        go_cut [6] from 37 to 48 (fun s6 wx => ∃ (Ap Aa As : Option Addr) (n7 cp n8 ca cs : Nat), s6 = .int .i64 N ∧ Blk wx wk.heap.size 68 [.slice Ap n7 cp, .slice Aa n8 ca, .slice As sn cs, .int .i64 ((cn : Int) + (N : Int))] ∧ Hid (PairsR wx Ap n7 FP ∧ AcctsR wx Aa n8 FQ ∧ IntsR wx As sn D.e.s) ∧ Below wk.heap.size wk wx)
        case first =>
          clear b_0 b_1 b_2 b_3 b_4 c2
          go_region_held3 (fun Y => Y.cell? ⟨w.heap.size, 0, none⟩ = some (.slice pA pn pc) ∧ Y.cell? ⟨w.heap.size, 1, none⟩ = some (.slice qA qn qc) ∧ Y.cell? ⟨w.heap.size, 2, none⟩ = some (.slice sA sn sc) ∧ Y.cell? ⟨w.heap.size, 3, none⟩ = some (.int .i64 cn) ∧ Y.cell? ⟨w.heap.size, 4, none⟩ = some (.slice (some ⟨ab, aoff, none⟩) ln lc) ∧ Y.cell? ⟨ab, aoff + k * 3 + 2, none⟩ = some (.slice C5 k5 e5))
            (exact HCELLS.out _ (by (repeat (first | (with_reducible exact Below.refl _ _) | (with_reducible assumption) | (with_reducible apply bel_alloc) | (with_reducible apply bel_drew) | (with_reducible apply bel_drewN) | (with_reducible refine bel_trans ?_ (by with_reducible assumption)) | (with_reducible refine bel_trans ?_ (HF.out _)) | ((with_reducible refine bel_set3 ?_ ?_); rotate_left; omega)))))
            ((go_at_call 44; refine (ref22_Step pA qA sA C5 pn pc qn qc sn sc k5 e5 D.e.p D.e.q D.e.s a.h cn FP FQ N _ (HPX.out.up (by (repeat (first | (with_reducible exact Below.refl _ _) | (with_reducible assumption) | (with_reducible apply bel_alloc) | (with_reducible apply bel_drew) | (with_reducible apply bel_drewN) | (with_reducible refine bel_trans ?_ (by with_reducible assumption)) | (with_reducible refine bel_trans ?_ (HF.out _)) | (with_reducible refine bel_set ?_ (by simp) _) | (with_reducible refine bel_set ?_ (by simp; omega) _) | (with_reducible refine bel_set ?_ (by omega) _))))) (HQX.out.up (by (repeat (first | (with_reducible exact Below.refl _ _) | (with_reducible assumption) | (with_reducible apply bel_alloc) | (with_reducible apply bel_drew) | (with_reducible apply bel_drewN) | (with_reducible refine bel_trans ?_ (by with_reducible assumption)) | (with_reducible refine bel_trans ?_ (HF.out _)) | (with_reducible refine bel_set ?_ (by simp) _) | (with_reducible refine bel_set ?_ (by simp; omega) _) | (with_reducible refine bel_set ?_ (by omega) _))))) (HSX.out.up (by (repeat (first | (with_reducible exact Below.refl _ _) | (with_reducible assumption) | (with_reducible apply bel_alloc) | (with_reducible apply bel_drew) | (with_reducible apply bel_drewN) | (with_reducible refine bel_trans ?_ (by with_reducible assumption)) | (with_reducible refine bel_trans ?_ (HF.out _)) | (with_reducible refine bel_set ?_ (by simp) _) | (with_reducible refine bel_set ?_ (by simp; omega) _) | (with_reducible refine bel_set ?_ (by omega) _))))) (HHX.out.up (by (repeat (first | (with_reducible exact Below.refl _ _) | (with_reducible assumption) | (with_reducible apply bel_alloc) | (with_reducible apply bel_drew) | (with_reducible apply bel_drewN) | (with_reducible refine bel_trans ?_ (by with_reducible assumption)) | (with_reducible refine bel_trans ?_ (HF.out _)) | (with_reducible refine bel_set ?_ (by simp) _) | (with_reducible refine bel_set ?_ (by simp; omega) _) | (with_reducible refine bel_set ?_ (by omega) _))))) HYE.out HYH.out (by omega) (by omega) HST.out).mono ?_; rintro e w7 ⟨Ap, n7, cp, Aa, n8, ca, As, cs, rfl, hP7, hA7, hS7, hF7, hb7⟩; have HF7 := Lib.hid (hF7 wk.heap.size (by first | (simp; omega) | omega)); have HR7 := Lib.hid (And.intro hP7 (And.intro hA7 hS7)); clear hP7 hA7 hS7 hF7; have hX7 := HX.out.up (bel_trans (bel_drew (Below.refl _ _)) hb7); have hxl7 := hX7.lt; have hxf7 := hX7.frozen; have y_0 := (hX7.box).2 0 _ rfl; have y_1 := (hX7.box).2 1 _ rfl; have y_2 := (hX7.box).2 2 _ rfl; have y_3 := (hX7.box).2 3 _ rfl; have HX7 := Lib.hid hX7; clear hX7))
          all_goals
            go_wp2_with fail
            go_meet
            have h7 : Below wk.heap.size wk w7 := bel_trans hbX (bel_trans (bel_drew (Below.refl _ _)) hb7)
            exact ⟨Ap, Aa, As, n7, cp, n8, ca, cs, rfl, set4 HX7.out _ _ _ _, Lib.hid ⟨(((HR7.out.1.set_far HF7.out.1 _).set_far HF7.out.1 _).set_far HF7.out.1 _).set_far HF7.out.1 _, (((HR7.out.2.1.set_far HF7.out.2.1 _).set_far HF7.out.2.1 _).set_far HF7.out.2.1 _).set_far HF7.out.2.1 _, (((HR7.out.2.2.set_far HF7.out.2.2 _).set_far HF7.out.2.2 _).set_far HF7.out.2.2 _).set_far HF7.out.2.2 _⟩, by (repeat (first | (with_reducible exact Below.refl _ _) | (with_reducible assumption) | (with_reducible apply bel_alloc) | (with_reducible apply bel_drew) | (with_reducible apply bel_drewN) | (with_reducible refine bel_trans ?_ (by with_reducible assumption)) | (with_reducible refine bel_trans ?_ (HF.out _)) | ((with_reducible refine bel_set3 ?_ ?_); rotate_left; omega)))⟩
        case rest =>
        obtain ⟨Ap, Aa, As, n7, cp, n8, ca, cs, rfl, hW, hRd, hbc⟩ := hcut
        obtain ⟨v, hv⟩ : ∃ x, x = wc := ⟨_, rfl⟩
        subst hv
        have HW := Lib.hid hW
        have hbwv : Below w.heap.size w v := bel_trans hbw hbc
        have hBv := HB.out.up hbc
        have hgv := hBv.1
        have habv : ab < v.heap.size := Nat.lt_of_lt_of_le hab hbc.size
        clear b_0 b_1 b_2 b_3 b_4 c2
        have b_0 := (hBv).2 0 _ rfl; have b_1 := (hBv).2 1 _ rfl; have b_2 := (hBv).2 2 _ rfl; have b_3 := (hBv).2 3 _ rfl; have b_4 := (hBv).2 4 _ rfl
        have c2 := (hbc.cell (p := ⟨ab, aoff + k * 3 + 2, none⟩) hab).trans hck
        have HC2 := Lib.hid c2
        have HBv := Lib.hid hBv
        have HCELLS2 : Hid (∀ Y, Below v.heap.size v Y → Y.cell? ⟨w.heap.size, 0, none⟩ = some (.slice pA pn pc) ∧ Y.cell? ⟨w.heap.size, 1, none⟩ = some (.slice qA qn qc) ∧ Y.cell? ⟨w.heap.size, 2, none⟩ = some (.slice sA sn sc) ∧ Y.cell? ⟨w.heap.size, 3, none⟩ = some (.int .i64 cn) ∧ Y.cell? ⟨w.heap.size, 4, none⟩ = some (.slice (some ⟨ab, aoff, none⟩) ln lc) ∧ Y.cell? ⟨ab, aoff + k * 3 + 2, none⟩ = some (.slice C5 k5 e5)) := Lib.hid (fun Y hY => by
          have q := (HBv.out.up hY).2
          exact ⟨q 0 _ rfl, q 1 _ rfl, q 2 _ rfl, q 3 _ rfl, q 4 _ rfl, (hY.cell (p := ⟨ab, aoff + k * 3 + 2, none⟩) habv).trans HC2.out⟩)
        have HHv := Lib.hid (HH.out.up hbc)
        have HPv := Lib.hid (HP.out.up hbwv)
        have HQv := Lib.hid (HQ.out.up hbwv)
        have HSv := Lib.hid (HS.out.up hbwv)
        clear hW hBv
        go_upto_region 10 with fail
        go_cut [7, 8, 9] from 49 to 61 (fun s7 s8 s9 wx => ∃ (g : Nat) (Bp Ba Bs : Option Addr) (n9 dp n10 da ds : Nat), s7 = .pointer (some ⟨g, 0, none⟩) ∧ s8 = .int .i64 N ∧ s9 = .int .i64 0 ∧ Blk wx g 68 [.slice Bp n9 dp, .slice Ba n10 da, .slice Bs sn ds, .int .i64 ((cn : Int) + (N : Int))] ∧ Hid (PairsR wx Bp n9 FP ∧ AcctsR wx Ba n10 FQ ∧ IntsR wx Bs sn D.e.s) ∧ Below v.heap.size v wx)
        case first =>
          clear b_0 b_1 b_2 b_3 b_4 c2
          go_region_held3 (fun Y => Y.cell? ⟨w.heap.size, 0, none⟩ = some (.slice pA pn pc) ∧ Y.cell? ⟨w.heap.size, 1, none⟩ = some (.slice qA qn qc) ∧ Y.cell? ⟨w.heap.size, 2, none⟩ = some (.slice sA sn sc) ∧ Y.cell? ⟨w.heap.size, 3, none⟩ = some (.int .i64 cn) ∧ Y.cell? ⟨w.heap.size, 4, none⟩ = some (.slice (some ⟨ab, aoff, none⟩) ln lc) ∧ Y.cell? ⟨ab, aoff + k * 3 + 2, none⟩ = some (.slice C5 k5 e5))
            (exact HCELLS2.out _ (by (repeat (first | (with_reducible exact Below.refl _ _) | (with_reducible assumption) | (with_reducible apply bel_alloc) | (with_reducible apply bel_drew) | (with_reducible apply bel_drewN) | (with_reducible refine bel_trans ?_ (by with_reducible assumption)) | (with_reducible refine bel_trans ?_ (HF.out _)) | ((with_reducible refine bel_set3 ?_ ?_); rotate_left; omega)))))
            ((go_at_call 40; refine (exec_Step_ok pA qA sA C5 pn pc qn qc sn sc k5 e5 D.e.p D.e.q D.e.s a.h cn FP FQ N _ (HPv.out.up (by (repeat (first | (with_reducible exact Below.refl _ _) | (with_reducible assumption) | (with_reducible apply bel_alloc) | (with_reducible apply bel_drew) | (with_reducible apply bel_drewN) | (with_reducible refine bel_trans ?_ (by with_reducible assumption)) | (with_reducible refine bel_trans ?_ (HF.out _)) | (with_reducible refine bel_set ?_ (by simp) _) | (with_reducible refine bel_set ?_ (by simp; omega) _) | (with_reducible refine bel_set ?_ (by omega) _))))) (HQv.out.up (by (repeat (first | (with_reducible exact Below.refl _ _) | (with_reducible assumption) | (with_reducible apply bel_alloc) | (with_reducible apply bel_drew) | (with_reducible apply bel_drewN) | (with_reducible refine bel_trans ?_ (by with_reducible assumption)) | (with_reducible refine bel_trans ?_ (HF.out _)) | (with_reducible refine bel_set ?_ (by simp) _) | (with_reducible refine bel_set ?_ (by simp; omega) _) | (with_reducible refine bel_set ?_ (by omega) _))))) (HSv.out.up (by (repeat (first | (with_reducible exact Below.refl _ _) | (with_reducible assumption) | (with_reducible apply bel_alloc) | (with_reducible apply bel_drew) | (with_reducible apply bel_drewN) | (with_reducible refine bel_trans ?_ (by with_reducible assumption)) | (with_reducible refine bel_trans ?_ (HF.out _)) | (with_reducible refine bel_set ?_ (by simp) _) | (with_reducible refine bel_set ?_ (by simp; omega) _) | (with_reducible refine bel_set ?_ (by omega) _))))) (HHv.out.up (by (repeat (first | (with_reducible exact Below.refl _ _) | (with_reducible assumption) | (with_reducible apply bel_alloc) | (with_reducible apply bel_drew) | (with_reducible apply bel_drewN) | (with_reducible refine bel_trans ?_ (by with_reducible assumption)) | (with_reducible refine bel_trans ?_ (HF.out _)) | (with_reducible refine bel_set ?_ (by simp) _) | (with_reducible refine bel_set ?_ (by simp; omega) _) | (with_reducible refine bel_set ?_ (by omega) _))))) HYE.out HYH.out (by omega) (by omega) HST.out).mono ?_; rintro e w7 ⟨vp, va, vs, rfl, hPO, hb7⟩; obtain ⟨n9, hn9⟩ : ∃ n, FP.length = n := ⟨_, rfl⟩; obtain ⟨n10, hn10⟩ : ∃ n, FQ.length = n := ⟨_, rfl⟩; have HN9 := Lib.hid hn9; have HN10 := Lib.hid hn10; have h9l : n9 ≤ 4096 := (by rw [← hn9]; exact HMF.out.1.1); have h10l : n10 ≤ 4096 := (by rw [← hn10]; exact HMF.out.2.1); clear hn9 hn10; obtain ⟨Bp, dp, rfl, -⟩ := nmP hPO.p HN9.out (by omega); obtain ⟨Ba, da, rfl, -⟩ := nmA hPO.a HN10.out (by omega); obtain ⟨Bs, ds, rfl, -⟩ := nmI hPO.s HS.out.1 (by omega); have HPO := Lib.hid hPO; clear hPO; (try have hcA := fun o => (bcell hb7).1 v.heap.size o (by first | (simp; done) | (simp; omega) | omega)); (try have hfA := fun o => (bcell hb7).2 v.heap.size o (by first | (simp; done) | (simp; omega) | omega)); have hzA := hb7.size; (try simp at hzA)))
          · go_wp2_with fail
            go_meet
            have hP8 := HPO.out.up (w' := w7.alloc (.cells #[.slice Bp n9 dp, .slice Ba n10 da, .slice Bs sn ds, .int .i64 ((cn : Int) + (N : Int))] 68)) (by (repeat (first | (with_reducible exact Below.refl _ _) | (with_reducible assumption) | (with_reducible apply bel_alloc) | (with_reducible apply bel_drew) | (with_reducible apply bel_drewN) | (with_reducible refine bel_trans ?_ (by with_reducible assumption)) | (with_reducible refine bel_trans ?_ (HF.out _)) | (with_reducible refine bel_set ?_ (by simp) _) | (with_reducible refine bel_set ?_ (by simp; omega) _) | (with_reducible refine bel_set ?_ (by omega) _))))
            refine ⟨_, Bp, Ba, Bs, n9, dp, n10, da, ds, rfl, rfl, rfl, Blk.new w7 68 [.slice Bp n9 dp, .slice Ba n10 da, .slice Bs sn ds, .int .i64 ((cn : Int) + (N : Int))], Lib.hid ⟨?_, ?_, ?_⟩, by (repeat (first | (with_reducible exact Below.refl _ _) | (with_reducible assumption) | (with_reducible apply bel_alloc) | (with_reducible apply bel_drew) | (with_reducible apply bel_drewN) | (with_reducible refine bel_trans ?_ (by with_reducible assumption)) | (with_reducible refine bel_trans ?_ (HF.out _)) | ((with_reducible refine bel_set3 ?_ ?_); rotate_left; omega)))⟩
            · obtain ⟨A', c', e', h'⟩ := nmP hP8.p HN9.out (by omega); injection e' with e1 e2 e3; subst e1; exact h'
            · obtain ⟨A', c', e', h'⟩ := nmA hP8.a HN10.out (by omega); injection e' with e1 e2 e3; subst e1; exact h'
            · obtain ⟨A', c', e', h'⟩ := nmI hP8.s HS.out.1 (by omega); injection e' with e1 e2 e3; subst e1; exact h'
          · go_wp2_with fail
            go_meet
            have hk : Blk w7 v.heap.size 68 [.slice none 0 0, .slice none 0 0, .slice none 0 0, .int .i64 0] := Blk.up (Blk.new v.drew 68 [.slice none 0 0, .slice none 0 0, .slice none 0 0, .int .i64 0]) hb7
            have hP8 := (((HPO.out.set (b := v.heap.size) (o := 0) (by simp) (.slice Bp n9 dp)).set (b := v.heap.size) (o := 1) (by simp) (.slice Ba n10 da)).set (b := v.heap.size) (o := 2) (by simp) (.slice Bs sn ds)).set (b := v.heap.size) (o := 3) (by simp) (.int .i64 ((cn : Int) + (N : Int)))
            refine ⟨_, Bp, Ba, Bs, n9, dp, n10, da, ds, rfl, rfl, rfl, set4 hk _ _ _ _, Lib.hid ⟨?_, ?_, ?_⟩, by (repeat (first | (with_reducible exact Below.refl _ _) | (with_reducible assumption) | (with_reducible apply bel_alloc) | (with_reducible apply bel_drew) | (with_reducible apply bel_drewN) | (with_reducible refine bel_trans ?_ (by with_reducible assumption)) | (with_reducible refine bel_trans ?_ (HF.out _)) | ((with_reducible refine bel_set3 ?_ ?_); rotate_left; omega)))⟩
            · obtain ⟨A', c', e', h'⟩ := nmP hP8.p HN9.out (by omega); injection e' with e1 e2 e3; subst e1; exact h'
            · obtain ⟨A', c', e', h'⟩ := nmA hP8.a HN10.out (by omega); injection e' with e1 e2 e3; subst e1; exact h'
            · obtain ⟨A', c', e', h'⟩ := nmI hP8.s HS.out.1 (by omega); injection e' with e1 e2 e3; subst e1; exact h'
        case rest =>
        obtain ⟨g, Bp, Ba, Bs, n9, dp, n10, da, ds, rfl, rfl, rfl, hG, hRe, hbd⟩ := hcut
        obtain ⟨u, hu⟩ : ∃ x, x = wc := ⟨_, rfl⟩
        subst hu
        have HG := Lib.hid hG
        have HWu := Lib.hid (HW.out.up hbd)
        have hgl := hG.lt
        have hxlc := HWu.out.lt
        clear b_0 b_1 b_2 b_3 b_4 c2
        have g_0 := (hG.box).2 0 _ rfl; have g_1 := (hG.box).2 1 _ rfl; have g_2 := (hG.box).2 2 _ rfl; have g_3 := (hG.box).2 3 _ rfl
        have x_0 := (HWu.out.box).2 0 _ rfl; have x_1 := (HWu.out.box).2 1 _ rfl; have x_2 := (HWu.out.box).2 2 _ rfl; have x_3 := (HWu.out.box).2 3 _ rfl
        clear hG
        have HRu : Hid (PairsR u Ap n7 FP ∧ AcctsR u Aa n8 FQ ∧ IntsR u As sn D.e.s) := Lib.hid ⟨hRd.out.1.up hbd, hRd.out.2.1.up hbd, hRd.out.2.2.up hbd⟩
        go_wp2_with (first
          | (go_at_call 38; refine (law23_num _ _).mono ?_; rintro e w' ⟨rfl, rfl⟩)
          | (go_at_call 39; refine (ref0_EqExec Bp Ba Bs Ap Aa As n9 dp n10 da sn ds n7 cp n8 ca sn cs FP FQ D.e.s ((cn : Int) + (N : Int)) _ hRe.out.1 hRe.out.2.1 hRe.out.2.2 HRu.out.1 HRu.out.2.1 HRu.out.2.2).mono ?_; rintro e w8 ⟨rfl, hb8⟩))
        have hbe : Below v.heap.size v w8 := bel_trans hbd hb8
        (first | (go_round; (case rel => exact ⟨k + 1, by omega, by go_num, Lib.hid (HBv.out.up hbe), bel_trans hbwv hbe⟩); (case measure => (simp [intOf] <;> omega))) | (go_roundw; (case rel => exact ⟨k + 1, by omega, by go_num, Lib.hid (HBv.out.up hbe), bel_trans hbwv hbe⟩); (case measure => (simp [intOf] <;> omega))) | (refine ⟨?_, by simp [intOf] <;> omega⟩; (repeat apply Exists.intro); refine ⟨?rel, ?fr⟩; (case fr => ((repeat' apply And.intro) <;> rfl)); (case rel => exact ⟨k + 1, by omega, by go_num, Lib.hid (HBv.out.up hbe), bel_trans hbwv hbe⟩)))
    · go_wp2_with (go_at_call 41; refine (law23_wakes _).mono ?_; rintro e w9 ⟨rfl, hb9⟩)
      all_goals
        go_ret
        exact ⟨rfl, bel_trans hbw hb9⟩
end Go.Proofs.Ytgljmljmljccgaa
