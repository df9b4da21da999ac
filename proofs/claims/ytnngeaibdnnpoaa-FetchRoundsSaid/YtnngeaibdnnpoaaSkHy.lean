/- Fetch: rows written over, Within, heavy. -/
import Derived.Test.YtnngeaibdnnpoaaSkHx
import Derived.Test.YtnngeaibdnnpoaaSkHv
import Derived.Test.YtnngeaibdnnpoaaSkHr2
namespace Go.Proofs.Ytnngeaibdnnpoaa
open Go.RowKit
set_option linter.unusedSimpArgs false
set_option linter.unusedVariables false

def wiI (x n : Int) : Int := x % 18446744073709551616 % n
set_option maxRecDepth 100000 in
set_option maxHeartbeats 1000000 in
theorem law0_Within (x n y : Int) (w : World) (h1 : 1 ≤ n) (h2 : n ≤ 1000) (hy : wiI x n = y) : Calls Try.prog 16 #[.int .i64 x, .int .i64 n] w fun e w' => e = .returned (.int .i64 y) ∧ w = w' := by
  have e1 : IntKind.u64.wrap x = x % 18446744073709551616 := by rw [IntKind.wrap_u64]
  have e2 : IntKind.u64.wrap n = n := by rw [IntKind.wrap_u64]; omega
  have e3 : ((x % 18446744073709551616).tmod n) = y := by rw [Int.tmod_eq_emod_of_nonneg (by omega)]; exact hy
  have hb : 0 ≤ y ∧ y < n := by rw [← hy]; exact ⟨Int.emod_nonneg _ (by omega), Int.emod_lt_of_pos _ (by omega)⟩
  have e4 : IntKind.i64.wrap y = y := IntWalk.i64_in _ (by omega)
  have e5 : (n == 0) = false := by simp; omega
  have e6 : ¬ n = 0 := by omega
  clear hy
  go_enter Try.func16, Try.ntmps16
  go_wp2
  go_ret
  exact ⟨by simp [*], rfl⟩
set_option maxRecDepth 100000 in
set_option maxHeartbeats 4000000 in
theorem law0_RowsS (s : SlP) (B : Nat) (w : World) (hr : RowT w B 55 4 s) (hn : s.n ≤ 1000000) (hB : B ≤ w.heap.size) :
    Calls Try.prog 55 #[.slice s.A s.n s.c] w fun e w' => e = .returned (.tuple #[]) ∧ Below B w w' ∧ KeepS (· = 55) w w' := by
  obtain ⟨A, n, c⟩ := s
  dsimp only at hn ⊢
  rcases hr with h | ⟨g, cur, h0, hgB, hg, h1, h2, h3⟩
  · unfold SlP.v at h
    injection h with e1 e2 e3
    subst e1; subst e2; subst e3
    go_enter Try.func55, Try.ntmps55
    go_wp2_with fail
    go_loop [2] (fun i => i = .int .i64 0) (fun _ => 0)
    case atStart => rfl
    case round =>
      obtain rfl := hrel
      go_wp2_with fail
      go_end0
      exact ⟨rfl, Below.refl _ _, .refl _ _⟩
  · dsimp only at h0 h1 h2 h3
    subst h0
    go_enter Try.func55, Try.ntmps55
    go_wp2_with fail
    go_loopw [2] (fun i wr => ∃ (k : Nat) (cr : Array Value), k ≤ n ∧ i = .int .i64 k ∧ wr.heap[g]? = some (.cells cr 55 (0, 0)) ∧ cr.size = c * 4 ∧ Below B w wr ∧ KeepS (· = 55) w wr) (fun i _ => n - (intOf i).toNat)
    case atStart => exact ⟨0, cur, by omega, rfl, hg, h3, Below.refl _ _, .refl _ _⟩
    case round =>
      obtain ⟨k, cr, hk, rfl, hgr, hcr, hbw, hkw⟩ := hrel
      (obtain ⟨wk, hwk⟩ : ∃ x, x = wr := ⟨_, rfl⟩); subst hwk
      have HG := Lib.hid hgr
      have HK := Lib.hid hkw
      have HB := Lib.hid hbw
      by_cases hlt : k < n
      · obtain ⟨u0, hu0⟩ : ∃ u, wk.cell? ⟨g, k * 4, none⟩ = some u := ⟨cr[k * 4]'(by omega), by simp [World.cell?, hgr, show k * 4 < cr.size by omega]⟩
        obtain ⟨u1, hu1⟩ : ∃ u, wk.cell? ⟨g, k * 4 + 1, none⟩ = some u := ⟨cr[k * 4 + 1]'(by omega), by simp [World.cell?, hgr, show k * 4 + 1 < cr.size by omega]⟩
        obtain ⟨u2, hu2⟩ : ∃ u, wk.cell? ⟨g, k * 4 + 2, none⟩ = some u := ⟨cr[k * 4 + 2]'(by omega), by simp [World.cell?, hgr, show k * 4 + 2 < cr.size by omega]⟩
        obtain ⟨u3, hu3⟩ : ∃ u, wk.cell? ⟨g, k * 4 + 3, none⟩ = some u := ⟨cr[k * 4 + 3]'(by omega), by simp [World.cell?, hgr, show k * 4 + 3 < cr.size by omega]⟩
        have hf : ∀ o, wk.frozen? ⟨g, o, none⟩ = false := fun o => by simp [World.frozen?, hgr]
        have hgl : g < wk.heap.size := (Array.getElem?_eq_some_iff.1 hgr).1
        obtain ⟨c', hc1, hc2, hc3, hc4⟩ := keep_put4 HG.out HB.out hgB (k * 4) (k * 4 + 1) (k * 4 + 2) (k * 4 + 3) (.int .i64 (-9)) (.int .i64 0) (.int .i64 0) (.int .i64 0)
        have H1 := Lib.hid hc1
        have H2 := Lib.hid hc2
        have H3 := Lib.hid hc3
        have H4 := Lib.hid hc4
        clear hgr hkw hbw hc1 hc2 hc3 hc4
        go_wp2_with fail
        (first | (go_round; (case rel => exact ⟨k + 1, c', by omega, by go_num, H1.out, by (rw [H2.out]; exact hcr), H4.out, HK.out.trans H3.out⟩); (case measure => (simp [intOf] <;> omega))) | (go_roundw; (case rel => exact ⟨k + 1, c', by omega, by go_num, H1.out, by (rw [H2.out]; exact hcr), H4.out, HK.out.trans H3.out⟩); (case measure => (simp [intOf] <;> omega))) | (refine ⟨?_, by simp [intOf] <;> omega⟩; (repeat apply Exists.intro); refine ⟨?rel, ?fr⟩; (case fr => ((repeat' apply And.intro) <;> rfl)); (case rel => exact ⟨k + 1, c', by omega, by go_num, H1.out, by (rw [H2.out]; exact hcr), H4.out, HK.out.trans H3.out⟩)))
      · clear hgr
        go_wp2_with fail
        go_end0
        exact ⟨rfl, HB.out, HK.out⟩
def LightF (D : FScrD) : Prop := D.f.rows.length ≤ 2000 ∧ D.l.length ≤ 200 ∧ ∀ j, j < D.l.length → (fath D.l j).l.length ≤ 2000
set_option maxRecDepth 100000 in
set_option maxHeartbeats 4000000 in
theorem law21_heavy (P : FScrP) (D : FScrD) (w : World) (h : FScrR w P D) : Calls Try.prog 20 #[P.val D] w fun e w' => ∃ y, e = .returned (.bool y) ∧ (y = false → LightF D) ∧ Below w.heap.size w w' := by
  obtain ⟨⟨rA, rn, rc⟩, ⟨lA, ln, lc⟩⟩ := P
  obtain ⟨⟨id, nodes, rows⟩, L⟩ := D
  have HR : Hid (RowsR w rA rn rows) := Lib.hid h.r
  have HL : Hid (FActsR w lA ln L) := Lib.hid h.l
  have HGL : Hid (∀ v ∈ L, SmF v) := Lib.hid h.gl
  have hrn : rn ≤ 17592186044416 := h.sr
  have hln : ln ≤ 17592186044416 := h.sl
  clear h
  show Calls Try.prog 20 #[.agg #[.int .i64 id, .int .i64 nodes, .slice rA rn rc, .slice lA ln lc]] w _
  go_enter Try.func20, Try.ntmps20
  go_wp2_with fail
  have HB0 := Lib.hid (BoxR.new w [.int .i64 id, .int .i64 nodes, .slice rA rn rc, .slice lA ln lc] 27)
  have hb0 : Below w.heap.size w (w.alloc (.cells #[.int .i64 id, .int .i64 nodes, .slice rA rn rc, .slice lA ln lc] 27)) := bel_alloc (Below.refl _ _)
  go_loopw [3, 4] (fun s3 ix wr => ∃ j t : Nat, j ≤ ln ∧ t ≤ 17592186044416 + 17592186044416 ∧ ix = .int .i64 j ∧ s3 = .int .i64 t ∧ Hid (rn ≤ t ∧ ∀ i, i < j → (fath L i).l.length ≤ t) ∧ Hid (BoxR wr w.heap.size [.int .i64 id, .int .i64 nodes, .slice rA rn rc, .slice lA ln lc]) ∧ Below w.heap.size w wr) (fun _ ix _ => ln - (intOf ix).toNat)
  case atStart => exact ⟨0, rn, Nat.zero_le _, by omega, rfl, rfl, Lib.hid ⟨Nat.le_refl _, fun i hi => absurd hi (by omega)⟩, HB0, hb0⟩
  case round =>
    clear HB0 hb0
    obtain ⟨j, t, hj, ht, rfl, rfl, HT, HBX, hbw⟩ := hrel
    (obtain ⟨wj, hwj⟩ : ∃ x, x = wr := ⟨_, rfl⟩); subst hwj
    have xl := HBX.out.1
    have x_0 := (HBX.out).2 0 _ rfl; have x_1 := (HBX.out).2 1 _ rfl; have x_2 := (HBX.out).2 2 _ rfl; have x_3 := (HBX.out).2 3 _ rfl
    by_cases hgo : j < ln ∧ t < 1048576
    · obtain ⟨hlt, ht2⟩ := hgo
      obtain ⟨b, off, rfl, hb, hc⟩ := (HL.out.up hbw).2.2 (by omega)
      obtain ⟨C, m, d, -, -, -, c3, hI⟩ := hc j hlt
      have hm : m ≤ 17592186044416 := by
        rw [← hI.1]
        refine HGL.out _ ?_
        unfold fath
        rw [List.getD_eq_getElem?_getD, List.getElem?_eq_getElem (by rw [HL.out.1]; exact hlt)]
        exact List.getElem_mem _
      have HI := Lib.hid hI.1
      have q3 : decide ((t : Int) < 1048576) = true := by simp; omega
      have HT2 := Lib.hid ht2
      clear hc hI ht2 ht
      have htI : (t : Int) ≤ 40000000000000 := by have := HT2.out; omega
      go_wp2_with fail
      (first | (go_round; (case rel => exact ⟨j + 1, t + m, by omega, by (have h9 := HT2.out); omega, by go_num, by go_num, Lib.hid ⟨by (have h9 := HT.out.1); omega, fun i hi => by (rcases Nat.lt_or_ge i j with h9 | h9; (have h8 := HT.out.2 i h9; omega); (obtain rfl : i = j := by omega); rw [HI.out]; omega)⟩, HBX, hbw⟩); (case measure => (simp [intOf] <;> omega))) | (go_roundw; (case rel => exact ⟨j + 1, t + m, by omega, by (have h9 := HT2.out); omega, by go_num, by go_num, Lib.hid ⟨by (have h9 := HT.out.1); omega, fun i hi => by (rcases Nat.lt_or_ge i j with h9 | h9; (have h8 := HT.out.2 i h9; omega); (obtain rfl : i = j := by omega); rw [HI.out]; omega)⟩, HBX, hbw⟩); (case measure => (simp [intOf] <;> omega))) | (refine ⟨?_, by simp [intOf] <;> omega⟩; (repeat apply Exists.intro); refine ⟨?rel, ?fr⟩; (case fr => ((repeat' apply And.intro) <;> rfl)); (case rel => exact ⟨j + 1, t + m, by omega, by (have h9 := HT2.out); omega, by go_num, by go_num, Lib.hid ⟨by (have h9 := HT.out.1); omega, fun i hi => by (rcases Nat.lt_or_ge i j with h9 | h9; (have h8 := HT.out.2 i h9; omega); (obtain rfl : i = j := by omega); rw [HI.out]; omega)⟩, HBX, hbw⟩)))
    · by_cases hbig : t ≤ 2000 ∧ ln ≤ 200
      · have hjl : j = ln := by omega
        subst hjl
        have q1 : decide ((2000 : Int) < (t : Int)) = false := by simp; omega
        have q2 : decide ((200 : Int) < (j : Int)) = false := by simp; omega
        have HBG := Lib.hid hbig
        clear hbig hgo ht hln
        go_wp2_with fail
        all_goals go_ret
        all_goals exact ⟨_, rfl, fun _ => ⟨by show rows.length ≤ 2000; rw [HR.out.1]; have h9 := HT.out.1; have h8 := HBG.out; omega, by show L.length ≤ 200; rw [HL.out.1]; exact HBG.out.2, fun i hi => Nat.le_trans (HT.out.2 i (by rw [← HL.out.1]; exact hi)) HBG.out.1⟩, hbw⟩
      · by_cases hq : j < ln
        · have q1 : decide ((2000 : Int) < (t : Int)) = true := by simp; omega
          have q3 : decide ((t : Int) < 1048576) = false := by simp; omega
          go_wp2_with fail
          go_ret
          exact ⟨true, rfl, fun h => (by cases h), hbw⟩
        · by_cases ht3 : t ≤ 2000
          · have q1 : decide ((2000 : Int) < (t : Int)) = false := by simp; omega
            have q2 : decide ((200 : Int) < (ln : Int)) = true := by simp; omega
            go_wp2_with fail
            go_ret
            exact ⟨true, rfl, fun h => (by cases h), hbw⟩
          · have q1 : decide ((2000 : Int) < (t : Int)) = true := by simp; omega
            go_wp2_with fail
            go_ret
            exact ⟨true, rfl, fun h => (by cases h), hbw⟩
end Go.Proofs.Ytnngeaibdnnpoaa
