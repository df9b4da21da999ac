/- Fetch: only: one kind of act, each with the same wants. -/
import Derived.Test.YtnngeaibdnnpoaaSkHy
namespace Go.Proofs.Ytnngeaibdnnpoaa
open Go.RowKit
set_option linter.unusedSimpArgs false
set_option linter.unusedVariables false

set_option maxRecDepth 100000 in
set_option maxHeartbeats 4000000 in
theorem law21_only (P : FScrP) (D : FScrD) (k0 : Int) (w : World) (h : FScrR w P D)
    (hstep : ∀ (C : Option Addr) (m d : Nat) (a : FActD) (X : World), Below w.heap.size w X → LightF D → a.l.length ≤ 2000 → IntsR X C m a.l →
      Calls Try.prog 24 #[.agg #[.int .i64 D.f.id, .int .i64 D.f.nodes, .slice P.r.A P.r.n P.r.c], .agg #[.int .i64 k0, .int .i64 a.k, .int .i64 a.g, .slice C m d]] X fun e w' => (∃ x0 x1 : Int, ∃ s : SlP, e = .returned (.tuple #[.agg #[.int .i64 x0, .int .i64 x1, .slice s.A s.n s.c], .bool true])) ∧ Below X.heap.size X w') :
    Calls Try.prog 15 #[P.val D, .int .i64 k0] w fun e w' => e = .returned (.bool true) ∧ Below w.heap.size w w' := by
  obtain ⟨⟨rA, rn, rc⟩, ⟨lA, ln, lc⟩⟩ := P
  obtain ⟨⟨id, nodes, rows⟩, L⟩ := D
  have H := Lib.hid h
  have HL : Hid (FActsR w lA ln L) := Lib.hid h.l
  have HST := Lib.hid hstep
  have hln : ln ≤ 17592186044416 := h.sl
  clear h hstep
  show Calls Try.prog 15 #[.agg #[.int .i64 id, .int .i64 nodes, .slice rA rn rc, .slice lA ln lc], .int .i64 k0] w _
  go_enter Try.func15, Try.ntmps15
  go_wp2_with fail
  have hbX : Below w.heap.size w (w.alloc (.cells #[.int .i64 id, .int .i64 nodes, .slice rA rn rc, .slice lA ln lc] 27)) := by (repeat (first | (with_reducible exact Below.refl _ _) | (with_reducible assumption) | (with_reducible apply bel_alloc) | (with_reducible apply bel_drew) | (with_reducible apply bel_drewN) | (with_reducible refine bel_trans ?_ (by with_reducible assumption)) | (with_reducible refine bel_trans ?_ (HF.out _)) | (with_reducible refine bel_set ?_ (by simp) _) | (with_reducible refine bel_set ?_ (by simp; omega) _) | (with_reducible refine bel_set ?_ (by omega) _)))
  refine (law21_heavy ⟨⟨rA, rn, rc⟩, ⟨lA, ln, lc⟩⟩ ⟨⟨id, nodes, rows⟩, L⟩ _ (H.out.up hbX)).mono ?_
  rintro e w1 ⟨x, rfl, hx, hb1⟩
  have hB1 : BoxR w1 w.heap.size [.int .i64 id, .int .i64 nodes, .slice rA rn rc, .slice lA ln lc] := (BoxR.new w [.int .i64 id, .int .i64 nodes, .slice rA rn rc, .slice lA ln lc] 27).up hb1
  have hb1w := bel_trans hbX hb1
  cases x
  case true =>
    clear hx
    go_wp2_with fail
    go_ret
    exact ⟨rfl, hb1w⟩
  case false =>
    have HLI := Lib.hid (hx rfl)
    have HB1 := Lib.hid hB1
    clear hx hB1 hb1 hbX
    go_wp2_with fail
    go_loopw [5] (fun iv wr => ∃ k : Nat, k ≤ ln ∧ iv = .int .i64 k ∧ Hid (BoxR wr w.heap.size [.int .i64 id, .int .i64 nodes, .slice rA rn rc, .slice lA ln lc]) ∧ Below w.heap.size w wr) (fun iv _ => ln - (intOf iv).toNat)
    case atStart => exact ⟨0, Nat.zero_le _, rfl, HB1, hb1w⟩
    case round =>
      clear HB1 hb1w
      obtain ⟨k, hk, rfl, HB, hbw⟩ := hrel
      (obtain ⟨wk, hwk⟩ : ∃ x, x = wr := ⟨_, rfl⟩); subst hwk
      have hg1 := HB.out.1
      have b_0 := (HB.out).2 0 _ rfl; have b_1 := (HB.out).2 1 _ rfl; have b_2 := (HB.out).2 2 _ rfl; have b_3 := (HB.out).2 3 _ rfl
      by_cases hgo : k < ln ∧ k < 20
      · obtain ⟨hlt, h20⟩ := hgo
        obtain ⟨b, off, rfl, hb, hc⟩ := (HL.out.up hbw).2.2 (by omega)
        obtain ⟨C, m, d, c0, c1, c2, c3, hI⟩ := hc k hlt
        obtain ⟨a, ha⟩ : ∃ a, fath L k = a := ⟨_, rfl⟩
        rw [ha] at c0 c1 c2 hI
        have hal : a.l.length ≤ 2000 := by rw [← ha]; exact HLI.out.2.2 k (by show k < L.length; rw [HL.out.1]; exact hlt)
        have HI := Lib.hid hI
        have HAL := Lib.hid hal
        clear hc hI ha hal
        go_wp2_with (go_at_call 24; refine (HST.out C m d a _ (bel_trans hbw (by (repeat (first | (with_reducible exact Below.refl _ _) | (with_reducible assumption) | (with_reducible apply bel_alloc) | (with_reducible apply bel_drew) | (with_reducible apply bel_drewN) | (with_reducible refine bel_trans ?_ (by with_reducible assumption)) | (with_reducible refine bel_trans ?_ (HF.out _)) | ((with_reducible refine bel_set3 ?_ ?_); rotate_left; omega))))) HLI.out HAL.out (HI.out.up (by (repeat (first | (with_reducible exact Below.refl _ _) | (with_reducible assumption) | (with_reducible apply bel_alloc) | (with_reducible apply bel_drew) | (with_reducible apply bel_drewN) | (with_reducible refine bel_trans ?_ (by with_reducible assumption)) | (with_reducible refine bel_trans ?_ (HF.out _)) | ((with_reducible refine bel_set3 ?_ ?_); rotate_left; omega)))))).mono ?_; rintro e w5 ⟨⟨x0, x1, s, rfl⟩, hb5⟩; have hbk5 : Below wk.heap.size wk w5 := (by (repeat (first | (with_reducible exact Below.refl _ _) | (with_reducible assumption) | (with_reducible apply bel_alloc) | (with_reducible apply bel_drew) | (with_reducible apply bel_drewN) | (with_reducible refine bel_trans ?_ (by with_reducible assumption)) | (with_reducible refine bel_trans ?_ (HF.out _)) | ((with_reducible refine bel_set3 ?_ ?_); rotate_left; omega)))))
        (first | (go_round; (case rel => exact ⟨k + 1, by omega, by go_num, Lib.hid (HB.out.up (by (repeat (first | (with_reducible exact Below.refl _ _) | (with_reducible assumption) | (with_reducible apply bel_alloc) | (with_reducible apply bel_drew) | (with_reducible apply bel_drewN) | (with_reducible refine bel_trans ?_ (by with_reducible assumption)) | (with_reducible refine bel_trans ?_ (HF.out _)) | ((with_reducible refine bel_set3 ?_ ?_); rotate_left; omega))))), bel_trans hbw (by (repeat (first | (with_reducible exact Below.refl _ _) | (with_reducible assumption) | (with_reducible apply bel_alloc) | (with_reducible apply bel_drew) | (with_reducible apply bel_drewN) | (with_reducible refine bel_trans ?_ (by with_reducible assumption)) | (with_reducible refine bel_trans ?_ (HF.out _)) | ((with_reducible refine bel_set3 ?_ ?_); rotate_left; omega))))⟩); (case measure => (simp [intOf] <;> omega))) | (go_roundw; (case rel => exact ⟨k + 1, by omega, by go_num, Lib.hid (HB.out.up (by (repeat (first | (with_reducible exact Below.refl _ _) | (with_reducible assumption) | (with_reducible apply bel_alloc) | (with_reducible apply bel_drew) | (with_reducible apply bel_drewN) | (with_reducible refine bel_trans ?_ (by with_reducible assumption)) | (with_reducible refine bel_trans ?_ (HF.out _)) | ((with_reducible refine bel_set3 ?_ ?_); rotate_left; omega))))), bel_trans hbw (by (repeat (first | (with_reducible exact Below.refl _ _) | (with_reducible assumption) | (with_reducible apply bel_alloc) | (with_reducible apply bel_drew) | (with_reducible apply bel_drewN) | (with_reducible refine bel_trans ?_ (by with_reducible assumption)) | (with_reducible refine bel_trans ?_ (HF.out _)) | ((with_reducible refine bel_set3 ?_ ?_); rotate_left; omega))))⟩); (case measure => (simp [intOf] <;> omega))) | (refine ⟨?_, by simp [intOf] <;> omega⟩; (repeat apply Exists.intro); refine ⟨?rel, ?fr⟩; (case fr => ((repeat' apply And.intro) <;> rfl)); (case rel => exact ⟨k + 1, by omega, by go_num, Lib.hid (HB.out.up (by (repeat (first | (with_reducible exact Below.refl _ _) | (with_reducible assumption) | (with_reducible apply bel_alloc) | (with_reducible apply bel_drew) | (with_reducible apply bel_drewN) | (with_reducible refine bel_trans ?_ (by with_reducible assumption)) | (with_reducible refine bel_trans ?_ (HF.out _)) | ((with_reducible refine bel_set3 ?_ ?_); rotate_left; omega))))), bel_trans hbw (by (repeat (first | (with_reducible exact Below.refl _ _) | (with_reducible assumption) | (with_reducible apply bel_alloc) | (with_reducible apply bel_drew) | (with_reducible apply bel_drewN) | (with_reducible refine bel_trans ?_ (by with_reducible assumption)) | (with_reducible refine bel_trans ?_ (HF.out _)) | ((with_reducible refine bel_set3 ?_ ?_); rotate_left; omega))))⟩)))
      · have q : decide ((k : Int) < (ln : Int)) = false ∨ decide ((k : Int) < 20) = false := by simp; omega
        have HQ := Lib.hid q
        clear q
        by_cases hq1 : k < ln
        · have q2 : decide ((k : Int) < 20) = false := by simp; omega
          go_wp2_with (go_at_call 14; refine (law21_wakes _).mono ?_; rintro e w9 ⟨rfl, hb9⟩)
          go_ret
          exact ⟨rfl, bel_trans hbw hb9⟩
        · have q1 : decide ((k : Int) < (ln : Int)) = false := by simp; omega
          go_wp2_with (go_at_call 14; refine (law21_wakes _).mono ?_; rintro e w9 ⟨rfl, hb9⟩)
          go_ret
          exact ⟨rfl, bel_trans hbw hb9⟩
end Go.Proofs.Ytnngeaibdnnpoaa
