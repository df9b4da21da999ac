/- message.May where the head may not be. -/
import Derived.Test.YtgfakefcmbpboaaSxWeb
import Derived.Test.YtgfakefcmbpboaaSxWga
import Derived.Test.YtgfakefcmbpboaaSxWge
import Derived.Test.YtgfakefcmbpboaaSxWgf
namespace Go.Proofs.Ytgfakefcmbpboaa
open Go.RowKit
set_option linter.unusedSimpArgs false
set_option linter.unusedVariables false

set_option maxRecDepth 100000 in
set_option maxHeartbeats 8000000 in
theorem message_May_bad (P : MsgP) (M : MsgD) (n : Int) (w : World) (hp : MsgR w P M) (hy : ¬ hdM M n) :
    Calls Try.prog 25 #[M18 P M, .int .i64 n] w fun e w' => e = .returned (.bool false) ∧ Below w.heap.size w w' := by
  obtain ⟨⟨bA, bn, bc⟩, ⟨⟨xA, xn, xc⟩, ⟨yA, yn, yc⟩⟩, ⟨⟨⟨cA, cn, cd⟩, ⟨dA, dn, dc⟩⟩, ⟨sA, sn, sc⟩⟩, ⟨eA, en, ec⟩⟩ := P
  obtain ⟨ki, fr, tt, di, b, hh, cc, ds⟩ := M
  have HY : Hid (¬ (isS n = true ∧ 1 ≤ fr ∧ fr ≤ n ∧ 1 ≤ tt ∧ tt ≤ n ∧ fr ≠ tt)) := Lib.hid hy
  clear hp hy
  show Calls Try.prog 25 #[.agg #[.int .i64 ki, .int .i64 fr, .int .i64 tt, .int .i64 di, .int .i64 b.au, .int .i64 b.n, .slice bA bn bc, .int .i64 hh.au, .int .i64 hh.ro, .slice xA xn xc, .slice yA yn yc, .int .i64 cc.h.au, .int .i64 cc.h.ro, .slice cA cn cd, .slice dA dn dc, .int .i64 cc.di, .slice sA sn sc, .slice eA en ec], .int .i64 n] w fun e w' => e = .returned (.bool false) ∧ Below w.heap.size w w'
  go_enter Try.func25, Try.ntmps25
  go_upto_region 1 with fail
  refine wp_world (fun W hW => ?_)
  have HBM : Hid (Blk W w.heap.size 54 [.int .i64 ki, .int .i64 fr, .int .i64 tt, .int .i64 di, .int .i64 b.au, .int .i64 b.n, .slice bA bn bc, .int .i64 hh.au, .int .i64 hh.ro, .slice xA xn xc, .slice yA yn yc, .int .i64 cc.h.au, .int .i64 cc.h.ro, .slice cA cn cd, .slice dA dn dc, .int .i64 cc.di, .slice sA sn sc, .slice eA en ec]) := Lib.hid (by rw [hW]; exact Blk.new w 54 [.int .i64 ki, .int .i64 fr, .int .i64 tt, .int .i64 di, .int .i64 b.au, .int .i64 b.n, .slice bA bn bc, .int .i64 hh.au, .int .i64 hh.ro, .slice xA xn xc, .slice yA yn yc, .int .i64 cc.h.au, .int .i64 cc.h.ro, .slice cA cn cd, .slice dA dn dc, .int .i64 cc.di, .slice sA sn sc, .slice eA en ec])
  have hb0 : Below w.heap.size w W := by rw [hW]; exact bel_alloc (Below.refl _ _)
  clear hW
  have hsz : w.heap.size < W.heap.size := HBM.out.lt
  have m0 : W.cell? ⟨w.heap.size, 0, none⟩ = some (.int .i64 ki) := HBM.out.box.2 0 _ rfl
  have m1 : W.cell? ⟨w.heap.size, 1, none⟩ = some (.int .i64 fr) := HBM.out.box.2 1 _ rfl
  have m2 : W.cell? ⟨w.heap.size, 2, none⟩ = some (.int .i64 tt) := HBM.out.box.2 2 _ rfl
  have m3 : W.cell? ⟨w.heap.size, 3, none⟩ = some (.int .i64 di) := HBM.out.box.2 3 _ rfl
  obtain ⟨ys, hys⟩ : ∃ ys, isS n = ys := ⟨_, rfl⟩
  have HS := Lib.hid hys
  rw [hys] at HY; clear hys
  cases ys
  · as_aux_lemma =>
    go_wp2_with (go_at_call 38; (with_reducible refine (comm_Is n _ _ HS.out).mono ?_); rintro e w' ⟨rfl, rfl⟩)
    go_ret
    exact ⟨rfl, belB⟩
  by_cases q0 : 1 ≤ fr
  rotate_left
  · have b0 : decide (fr < 1) = true := by simp; omega
    as_aux_lemma =>
      go_wp2_with (go_at_call 38; (with_reducible refine (comm_Is n _ _ HS.out).mono ?_); rintro e w' ⟨rfl, rfl⟩)
      go_ret
      exact ⟨rfl, belB⟩
  have b0 : decide (fr < 1) = false := by simp; omega
  by_cases q1 : fr ≤ n
  rotate_left
  · have b1 : decide (n < fr) = true := by simp; omega
    as_aux_lemma =>
      go_wp2_with (go_at_call 38; (with_reducible refine (comm_Is n _ _ HS.out).mono ?_); rintro e w' ⟨rfl, rfl⟩)
      go_ret
      exact ⟨rfl, belB⟩
  have b1 : decide (n < fr) = false := by simp; omega
  by_cases q2 : 1 ≤ tt
  rotate_left
  · have b2 : decide (tt < 1) = true := by simp; omega
    as_aux_lemma =>
      go_wp2_with (go_at_call 38; (with_reducible refine (comm_Is n _ _ HS.out).mono ?_); rintro e w' ⟨rfl, rfl⟩)
      go_ret
      exact ⟨rfl, belB⟩
  have b2 : decide (tt < 1) = false := by simp; omega
  by_cases q3 : tt ≤ n
  rotate_left
  · have b3 : decide (n < tt) = true := by simp; omega
    as_aux_lemma =>
      go_wp2_with (go_at_call 38; (with_reducible refine (comm_Is n _ _ HS.out).mono ?_); rintro e w' ⟨rfl, rfl⟩)
      go_ret
      exact ⟨rfl, belB⟩
  have b3 : decide (n < tt) = false := by simp; omega
  by_cases q4 : fr = tt
  · subst q4
    as_aux_lemma =>
      go_wp2_with (go_at_call 38; (with_reducible refine (comm_Is n _ _ HS.out).mono ?_); rintro e w' ⟨rfl, rfl⟩)
      go_ret
      exact ⟨rfl, belB⟩
  exact (HY.out ⟨rfl, q0, q1, q2, q3, q4⟩).elim

end Go.Proofs.Ytgfakefcmbpboaa
namespace Go.Proofs.Ytgfakefcmbpboaa
open Go.RowKit
set_option linter.unusedSimpArgs false
set_option linter.unusedVariables false

def takes4 (k : Int) : Prop := k = 1 ∨ k = 2 ∨ k = 3 ∨ k = 7
theorem MsgR.lens {w : World} {P : MsgP} {M : MsgD} (h : MsgR w P M) : M.b.tx.length = P.b.n ∧ M.h.ba.length = P.h.b.n ∧ M.h.pa.length = P.h.p.n ∧ M.c.h.ba.length = P.c.h.b.n ∧ M.c.h.pa.length = P.c.h.p.n ∧ M.c.si.length = P.c.s.n ∧ M.ds.length = P.ds.n :=
  ⟨h.tx.1, h.h.1.1, h.h.2.1, h.c.1.1.1, h.c.1.2.1, h.c.2.1, h.ds.1⟩
/-- What lists' lengths tell of the whole. -/
theorem mayC_iff {w v : World} {P Q : MsgP} {M O : MsgD} (h : MsgR w P M) (hq : MsgR v Q O) (h0 : O.ki = M.ki ∧ O.fr = M.fr ∧ O.tt = M.tt) (t1 : O.b.tx = M.b.tx ∨ O.b.tx = []) (t2 : O.h.ba = []) (t3 : O.h.pa = []) (t4 : O.c.h.ba = []) (t5 : O.c.h.pa = []) (t6 : O.c.si = []) (t7 : O.ds = M.ds ∨ O.ds = []) : mayC P Q M O ↔ O = M := by
  obtain ⟨p1, p2, p3, p4, p5, p6, p7⟩ := h.lens
  obtain ⟨r1, r2, r3, r4, r5, r6, r7⟩ := hq.lens
  obtain ⟨ki, fr, tt, di, ⟨pa, pn, ptx⟩, ⟨ha, hr, hba, hpa⟩, ⟨⟨ca, cr, cba, cpa⟩, cdi, csi⟩, ds⟩ := M
  obtain ⟨ki', fr', tt', di', ⟨pa', pn', ptx'⟩, ⟨ha', hr', hba', hpa'⟩, ⟨⟨ca', cr', cba', cpa'⟩, cdi', csi'⟩, ds'⟩ := O
  dsimp only at *
  obtain ⟨rfl, rfl, rfl⟩ := h0
  unfold mayC headC
  dsimp only
  constructor
  · rintro ⟨rfl, rfl, rfl, g4, ⟨rfl, rfl, g5, g6⟩, ⟨rfl, rfl, g7, g8⟩, rfl, g9, g10⟩
    have same : ∀ {α : Type} {a b : List α}, (b = a ∨ b = []) → a.length = b.length → b = a := fun h e => by
      rcases h with h | h
      · exact h
      · subst h; exact (List.eq_nil_of_length_eq_zero (by simpa using e)).symm
    have e1 := same t1 (by rw [p1, r1, g4])
    have e2 := same (.inr t2) (by rw [p2, r2, g5])
    have e3 := same (.inr t3) (by rw [p3, r3, g6])
    have e4 := same (.inr t4) (by rw [p4, r4, g7])
    have e5 := same (.inr t5) (by rw [p5, r5, g8])
    have e6 := same (.inr t6) (by rw [p6, r6, g9])
    have e7 := same t7 (by rw [p7, r7, g10])
    rw [e1, e2, e3, e4, e5, e6, e7]
  · intro e
    injection e with _ _ _ e4 e5 e6 e7 e8
    injection e5 with e51 e52 e53
    injection e6 with e61 e62 e63 e64
    injection e7 with e71 e72 e73
    injection e71 with e711 e712 e713 e714
    subst e4 e51 e52 e53 e61 e62 e63 e64 e72 e73 e711 e712 e713 e714 e8
    exact ⟨rfl, rfl, rfl, by rw [← p1, ← r1], ⟨rfl, rfl, by rw [← p2, ← r2], by rw [← p3, ← r3]⟩, ⟨rfl, rfl, by rw [← p4, ← r4], by rw [← p5, ← r5]⟩, rfl, by rw [← p6, ← r6], by rw [← p7, ← r7]⟩
theorem msgB_of {M : MsgD} {n : Int} {y yd : Bool} {O : MsgD} (hh : hdM M n) (hy : msgB M n = y) (h1 : okM M n ↔ yd = true) (h2 : onlyD M = O) : y = true ↔ yd = true ∧ O = M := by
  rw [msgB_iff hy, h1, h2]
  exact ⟨fun g => g.2, fun g => ⟨hh, g⟩⟩
theorem msgB_bad {M : MsgD} {n : Int} {y : Bool} (hh : ¬ hdM M n) (hy : msgB M n = y) : y = false := by
  cases y
  · rfl
  · exact absurd ((msgB_iff hy).1 rfl).1 hh
/-- A kind that a worker takes: what the two sides tell of such a message. -/
structure TakesK (k : Int) : Prop where
  in4 : takes4 k
  may : ∀ (P : MsgP) (M : MsgD) (n : Int) (y : Bool) (w : World), MsgR w P M → M.ki = k → hdM M n → msgB M n = y → Calls Try.prog 25 #[M18 P M, .int .i64 n] w fun e w' => e = .returned (.bool y) ∧ Below w.heap.size w w'
theorem message_May1' (P : MsgP) (M : MsgD) (n : Int) (y : Bool) (w : World) (h : MsgR w P M) (hk : M.ki = 1) (hh : hdM M n) (hy : msgB M n = y) :
    Calls Try.prog 25 #[M18 P M, .int .i64 n] w fun e w' => e = .returned (.bool y) ∧ Below w.heap.size w w' := by
  have h1 := msgB_of (yd := dec (digS M.di = true ∧ bmT M.b = true ∧ M.b.au ≤ n)) (O := ⟨M.ki, M.fr, M.tt, M.di, M.b, hea0, cer0, []⟩) hh hy (by unfold okM; rw [if_pos (by simp [hk]), dec_iff]) (by unfold onlyD; rw [if_pos (by simp [hk])])
  have hR : MsgR w ⟨P.b, ⟨⟨none, 0, 0⟩, ⟨none, 0, 0⟩⟩, ⟨⟨⟨none, 0, 0⟩, ⟨none, 0, 0⟩⟩, ⟨none, 0, 0⟩⟩, ⟨none, 0, 0⟩⟩ (⟨M.ki, M.fr, M.tt, M.di, M.b, hea0, cer0, []⟩ : MsgD) := ⟨h.tx, HeaderR.nil _, CertR.nil _, IntsR.nil _ _⟩
  refine message_May_of P ⟨P.b, ⟨⟨none, 0, 0⟩, ⟨none, 0, 0⟩⟩, ⟨⟨⟨none, 0, 0⟩, ⟨none, 0, 0⟩⟩, ⟨none, 0, 0⟩⟩, ⟨none, 0, 0⟩⟩ M ⟨M.ki, M.fr, M.tt, M.di, M.b, hea0, cer0, []⟩ n (dec (digS M.di = true ∧ bmT M.b = true ∧ M.b.au ≤ n)) y w hh (fun u hu => message_only1 P M n _ u hk (h.tx.up hu) rfl) ?_
  rw [mayC_iff h hR ⟨rfl, rfl, rfl⟩ (.inl rfl) rfl rfl rfl rfl rfl (.inr rfl)]
  exact h1
theorem message_May2' (P : MsgP) (M : MsgD) (n : Int) (y : Bool) (w : World) (h : MsgR w P M) (hk : M.ki = 2) (hh : hdM M n) (hy : msgB M n = y) :
    Calls Try.prog 25 #[M18 P M, .int .i64 n] w fun e w' => e = .returned (.bool y) ∧ Below w.heap.size w w' := by
  have h1 := msgB_of (yd := digS M.di) (O := ⟨M.ki, M.fr, M.tt, M.di, bat0, hea0, cer0, []⟩) hh hy (by unfold okM; rw [if_neg (by simp [hk]), if_pos hk]) (by unfold onlyD; rw [if_neg (by simp [hk]), if_pos hk])
  have hR : MsgR w ⟨⟨none, 0, 0⟩, ⟨⟨none, 0, 0⟩, ⟨none, 0, 0⟩⟩, ⟨⟨⟨none, 0, 0⟩, ⟨none, 0, 0⟩⟩, ⟨none, 0, 0⟩⟩, ⟨none, 0, 0⟩⟩ (⟨M.ki, M.fr, M.tt, M.di, bat0, hea0, cer0, []⟩ : MsgD) := ⟨TxsR.nil _ _, HeaderR.nil _, CertR.nil _, IntsR.nil _ _⟩
  refine message_May_of P ⟨⟨none, 0, 0⟩, ⟨⟨none, 0, 0⟩, ⟨none, 0, 0⟩⟩, ⟨⟨⟨none, 0, 0⟩, ⟨none, 0, 0⟩⟩, ⟨none, 0, 0⟩⟩, ⟨none, 0, 0⟩⟩ M ⟨M.ki, M.fr, M.tt, M.di, bat0, hea0, cer0, []⟩ n (digS M.di) y w hh (fun u hu => (message_only2 P M n _ u hk rfl).mono (fun e w' he => by rw [show M.ki = 2 from hk]; exact he)) ?_
  rw [mayC_iff h hR ⟨rfl, rfl, rfl⟩ (.inr rfl) rfl rfl rfl rfl rfl (.inr rfl)]
  exact h1
theorem message_May4 (P : MsgP) (M : MsgD) (n : Int) (y : Bool) (w : World) (h : MsgR w P M) (hk : TakesK M.ki) (hy : msgB M n = y) :
    Calls Try.prog 25 #[M18 P M, .int .i64 n] w fun e w' => e = .returned (.bool y) ∧ Below w.heap.size w w' := by
  by_cases hh : hdM M n
  · exact hk.may P M n y w h rfl hh hy
  · rw [msgB_bad hh hy]
    exact message_May_bad P M n w h hh
theorem takesK1 : TakesK 1 := ⟨by unfold takes4; omega, message_May1'⟩
theorem takesK2 : TakesK 2 := ⟨by unfold takes4; omega, message_May2'⟩
end Go.Proofs.Ytgfakefcmbpboaa
