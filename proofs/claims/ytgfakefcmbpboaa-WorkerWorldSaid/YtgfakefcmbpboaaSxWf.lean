/- What a worker may be, at the program. -/
import Derived.Test.YtgfakefcmbpboaaSxWd
namespace Go.Proofs.Ytgfakefcmbpboaa
open Go.RowKit
set_option linter.unusedSimpArgs false
set_option linter.unusedVariables false

noncomputable def txsB (l : List TxD) : Bool := dec (∀ j, j < l.length → txS (xth l j) = true)
theorem txsB_iff {l : List TxD} : txsB l = true ↔ ∀ j, j < l.length → txS (xth l j) = true := dec_iff
def MayW (D : WorkD) : Prop := isS D.nodes = true ∧ 1 ≤ D.id ∧ D.id ≤ D.nodes ∧ numB D.next 1 = true ∧ numB D.age 0 = true ∧ numB D.clock 0 = true ∧ D.op.length ≤ 64 ∧ D.he.length ≤ 1024 ∧ txsB D.op = true ∧ wtB D.wa D.nodes = true ∧ hdB D.he = true ∧ seenB D.re = true
noncomputable def mayW (D : WorkD) : Bool := dec (MayW D)
theorem mayW_iff {D : WorkD} : mayW D = true ↔ MayW D := dec_iff
set_option maxRecDepth 100000 in
set_option maxHeartbeats 4000000 in
theorem worker_May (P : WorkP) (D : WorkD) (y : Bool) (w : World) (h : WorkR w P D) (hy : mayW D = y) : Calls Try.prog 20 #[P.val D] w fun e w' => e = .returned (.bool y) ∧ Below w.heap.size w w' := by
  obtain ⟨⟨oA, on, oc⟩, ⟨tA, tn, tc⟩, ⟨eA, en, ec⟩, ⟨rA, rn, rc⟩⟩ := P
  have HO : Hid (TxsR w oA on D.op) := Lib.hid h.op
  have HT : Hid (WaitsR w tA tn D.wa) := Lib.hid h.wa
  have HE : Hid (HeldsR w eA en D.he) := Lib.hid h.he
  have HR : Hid (IntsR w rA rn D.re) := Lib.hid h.re
  have hon : on ≤ 9223372036854775807 := h.op.2.2.1
  have hen : en ≤ 9223372036854775807 := h.he.2.1
  obtain ⟨ys, hs⟩ : ∃ z, isS D.nodes = z := ⟨_, rfl⟩
  obtain ⟨y4, h4⟩ : ∃ z, numB D.next 1 = z := ⟨_, rfl⟩
  obtain ⟨y5, h5⟩ : ∃ z, numB D.age 0 = z := ⟨_, rfl⟩
  obtain ⟨y6, h6⟩ : ∃ z, numB D.clock 0 = z := ⟨_, rfl⟩
  obtain ⟨yt, ht⟩ : ∃ z, txsB D.op = z := ⟨_, rfl⟩
  obtain ⟨yw, hw⟩ : ∃ z, wtB D.wa D.nodes = z := ⟨_, rfl⟩
  obtain ⟨yh, hh⟩ : ∃ z, hdB D.he = z := ⟨_, rfl⟩
  obtain ⟨yu, hu⟩ : ∃ z, seenB D.re = z := ⟨_, rfl⟩
  obtain ⟨nodes, hnd⟩ : ∃ z, D.nodes = z := ⟨_, rfl⟩
  obtain ⟨id, hid⟩ : ∃ z, D.id = z := ⟨_, rfl⟩
  obtain ⟨next, hnx⟩ : ∃ z, D.next = z := ⟨_, rfl⟩
  obtain ⟨age, hag⟩ : ∃ z, D.age = z := ⟨_, rfl⟩
  obtain ⟨clock, hck⟩ : ∃ z, D.clock = z := ⟨_, rfl⟩
  have hY : y = true ↔ (ys = true ∧ 1 ≤ id ∧ id ≤ nodes ∧ y4 = true ∧ y5 = true ∧ y6 = true ∧ on ≤ 64 ∧ en ≤ 1024 ∧ yt = true ∧ yw = true ∧ yh = true ∧ yu = true) := by
    rw [← hy, mayW_iff]; unfold MayW; rw [hs, h4, h5, h6, ht, hw, hh, hu, hid, hnd, HO.out.1, HE.out.1]
  have HY := Lib.hid hY
  rw [hnd] at hs hw
  rw [hnx] at h4
  rw [hag] at h5
  rw [hck] at h6
  have HS := Lib.hid hs
  have H4 := Lib.hid h4
  have H5 := Lib.hid h5
  have H6 := Lib.hid h6
  have HTX := Lib.hid ht
  have HWT := Lib.hid hw
  have HHD := Lib.hid hh
  have HSN := Lib.hid hu
  show Calls Try.prog 20 #[.agg #[.int .i64 D.id, .int .i64 D.nodes, .int .i64 D.next, .slice oA on oc, .int .i64 D.age, .int .i64 D.clock, .slice tA tn tc, .slice eA en ec, .slice rA rn rc]] w _
  rw [hid, hnd, hnx, hag, hck]
  clear h hy hs h4 h5 h6 ht hw hh hu hY hnd hid hnx hag hck
  go_enter Try.func20, Try.ntmps20
  cases ys
  case false =>
    go_wp2_with (first | (go_at_call 38; (with_reducible refine (comm_Is nodes _ _ HS.out).mono ?_); rintro e w' ⟨rfl, rfl⟩) | (go_at_call 39; (with_reducible refine (worker_number next 1 _ _ H4.out).mono ?_); rintro e w' ⟨rfl, rfl⟩) | (go_at_call 39; (with_reducible refine (worker_number age 0 _ _ H5.out).mono ?_); rintro e w' ⟨rfl, rfl⟩) | (go_at_call 39; (with_reducible refine (worker_number clock 0 _ _ H6.out).mono ?_); rintro e w' ⟨rfl, rfl⟩))
    go_ret
    exact ⟨ret_bool (no_y HY.out (by rintro ⟨g1, g2, g3, g4, g5, g6, g7, g8, g9, g10, g11, g12⟩; first | omega | (cases g1; done) | (exact g1.elim) | (cases g4; done) | (cases g5; done) | (cases g6; done) | (cases g9; done) | (cases g10; done) | (cases g11; done) | (cases g12; done))), belA⟩
  case true =>
  by_cases q1 : 1 ≤ id
  case neg =>
    have b1 : decide (id < 1) = true := by simp; omega
    go_wp2_with (first | (go_at_call 38; (with_reducible refine (comm_Is nodes _ _ HS.out).mono ?_); rintro e w' ⟨rfl, rfl⟩) | (go_at_call 39; (with_reducible refine (worker_number next 1 _ _ H4.out).mono ?_); rintro e w' ⟨rfl, rfl⟩) | (go_at_call 39; (with_reducible refine (worker_number age 0 _ _ H5.out).mono ?_); rintro e w' ⟨rfl, rfl⟩) | (go_at_call 39; (with_reducible refine (worker_number clock 0 _ _ H6.out).mono ?_); rintro e w' ⟨rfl, rfl⟩))
    go_ret
    exact ⟨ret_bool (no_y HY.out (by rintro ⟨g1, g2, g3, g4, g5, g6, g7, g8, g9, g10, g11, g12⟩; first | omega | (cases g1; done) | (exact g1.elim) | (cases g4; done) | (cases g5; done) | (cases g6; done) | (cases g9; done) | (cases g10; done) | (cases g11; done) | (cases g12; done))), belA⟩
  case pos =>
  have b1 : decide (id < 1) = false := by simp; omega
  by_cases q2 : id ≤ nodes
  case neg =>
    have b2 : decide (nodes < id) = true := by simp; omega
    go_wp2_with (first | (go_at_call 38; (with_reducible refine (comm_Is nodes _ _ HS.out).mono ?_); rintro e w' ⟨rfl, rfl⟩) | (go_at_call 39; (with_reducible refine (worker_number next 1 _ _ H4.out).mono ?_); rintro e w' ⟨rfl, rfl⟩) | (go_at_call 39; (with_reducible refine (worker_number age 0 _ _ H5.out).mono ?_); rintro e w' ⟨rfl, rfl⟩) | (go_at_call 39; (with_reducible refine (worker_number clock 0 _ _ H6.out).mono ?_); rintro e w' ⟨rfl, rfl⟩))
    go_ret
    exact ⟨ret_bool (no_y HY.out (by rintro ⟨g1, g2, g3, g4, g5, g6, g7, g8, g9, g10, g11, g12⟩; first | omega | (cases g1; done) | (exact g1.elim) | (cases g4; done) | (cases g5; done) | (cases g6; done) | (cases g9; done) | (cases g10; done) | (cases g11; done) | (cases g12; done))), belA⟩
  case pos =>
  have b2 : decide (nodes < id) = false := by simp; omega
  cases y4
  case false =>
    go_wp2_with (first | (go_at_call 38; (with_reducible refine (comm_Is nodes _ _ HS.out).mono ?_); rintro e w' ⟨rfl, rfl⟩) | (go_at_call 39; (with_reducible refine (worker_number next 1 _ _ H4.out).mono ?_); rintro e w' ⟨rfl, rfl⟩) | (go_at_call 39; (with_reducible refine (worker_number age 0 _ _ H5.out).mono ?_); rintro e w' ⟨rfl, rfl⟩) | (go_at_call 39; (with_reducible refine (worker_number clock 0 _ _ H6.out).mono ?_); rintro e w' ⟨rfl, rfl⟩))
    go_ret
    exact ⟨ret_bool (no_y HY.out (by rintro ⟨g1, g2, g3, g4, g5, g6, g7, g8, g9, g10, g11, g12⟩; first | omega | (cases g1; done) | (exact g1.elim) | (cases g4; done) | (cases g5; done) | (cases g6; done) | (cases g9; done) | (cases g10; done) | (cases g11; done) | (cases g12; done))), belA⟩
  case true =>
  cases y5
  case false =>
    go_wp2_with (first | (go_at_call 38; (with_reducible refine (comm_Is nodes _ _ HS.out).mono ?_); rintro e w' ⟨rfl, rfl⟩) | (go_at_call 39; (with_reducible refine (worker_number next 1 _ _ H4.out).mono ?_); rintro e w' ⟨rfl, rfl⟩) | (go_at_call 39; (with_reducible refine (worker_number age 0 _ _ H5.out).mono ?_); rintro e w' ⟨rfl, rfl⟩) | (go_at_call 39; (with_reducible refine (worker_number clock 0 _ _ H6.out).mono ?_); rintro e w' ⟨rfl, rfl⟩))
    go_ret
    exact ⟨ret_bool (no_y HY.out (by rintro ⟨g1, g2, g3, g4, g5, g6, g7, g8, g9, g10, g11, g12⟩; first | omega | (cases g1; done) | (exact g1.elim) | (cases g4; done) | (cases g5; done) | (cases g6; done) | (cases g9; done) | (cases g10; done) | (cases g11; done) | (cases g12; done))), belA⟩
  case true =>
  cases y6
  case false =>
    go_wp2_with (first | (go_at_call 38; (with_reducible refine (comm_Is nodes _ _ HS.out).mono ?_); rintro e w' ⟨rfl, rfl⟩) | (go_at_call 39; (with_reducible refine (worker_number next 1 _ _ H4.out).mono ?_); rintro e w' ⟨rfl, rfl⟩) | (go_at_call 39; (with_reducible refine (worker_number age 0 _ _ H5.out).mono ?_); rintro e w' ⟨rfl, rfl⟩) | (go_at_call 39; (with_reducible refine (worker_number clock 0 _ _ H6.out).mono ?_); rintro e w' ⟨rfl, rfl⟩))
    go_ret
    exact ⟨ret_bool (no_y HY.out (by rintro ⟨g1, g2, g3, g4, g5, g6, g7, g8, g9, g10, g11, g12⟩; first | omega | (cases g1; done) | (exact g1.elim) | (cases g4; done) | (cases g5; done) | (cases g6; done) | (cases g9; done) | (cases g10; done) | (cases g11; done) | (cases g12; done))), belA⟩
  case true =>
  by_cases q6 : on ≤ 64
  case neg =>
    have b6 : decide ((64 : Int) < (on : Int)) = true := by simp; omega
    go_wp2_with (first | (go_at_call 38; (with_reducible refine (comm_Is nodes _ _ HS.out).mono ?_); rintro e w' ⟨rfl, rfl⟩) | (go_at_call 39; (with_reducible refine (worker_number next 1 _ _ H4.out).mono ?_); rintro e w' ⟨rfl, rfl⟩) | (go_at_call 39; (with_reducible refine (worker_number age 0 _ _ H5.out).mono ?_); rintro e w' ⟨rfl, rfl⟩) | (go_at_call 39; (with_reducible refine (worker_number clock 0 _ _ H6.out).mono ?_); rintro e w' ⟨rfl, rfl⟩))
    go_ret
    exact ⟨ret_bool (no_y HY.out (by rintro ⟨g1, g2, g3, g4, g5, g6, g7, g8, g9, g10, g11, g12⟩; first | omega | (cases g1; done) | (exact g1.elim) | (cases g4; done) | (cases g5; done) | (cases g6; done) | (cases g9; done) | (cases g10; done) | (cases g11; done) | (cases g12; done))), belA⟩
  case pos =>
  have b6 : decide ((64 : Int) < (on : Int)) = false := by simp; omega
  by_cases q7 : en ≤ 1024
  case neg =>
    have b7 : decide ((1024 : Int) < (en : Int)) = true := by simp; omega
    go_wp2_with (first | (go_at_call 38; (with_reducible refine (comm_Is nodes _ _ HS.out).mono ?_); rintro e w' ⟨rfl, rfl⟩) | (go_at_call 39; (with_reducible refine (worker_number next 1 _ _ H4.out).mono ?_); rintro e w' ⟨rfl, rfl⟩) | (go_at_call 39; (with_reducible refine (worker_number age 0 _ _ H5.out).mono ?_); rintro e w' ⟨rfl, rfl⟩) | (go_at_call 39; (with_reducible refine (worker_number clock 0 _ _ H6.out).mono ?_); rintro e w' ⟨rfl, rfl⟩))
    go_ret
    exact ⟨ret_bool (no_y HY.out (by rintro ⟨g1, g2, g3, g4, g5, g6, g7, g8, g9, g10, g11, g12⟩; first | omega | (cases g1; done) | (exact g1.elim) | (cases g4; done) | (cases g5; done) | (cases g6; done) | (cases g9; done) | (cases g10; done) | (cases g11; done) | (cases g12; done))), belA⟩
  case pos =>
  have b7 : decide ((1024 : Int) < (en : Int)) = false := by simp; omega
  go_wp2_with (first | (go_at_call 38; (with_reducible refine (comm_Is nodes _ _ HS.out).mono ?_); rintro e w' ⟨rfl, rfl⟩) | (go_at_call 39; (with_reducible refine (worker_number next 1 _ _ H4.out).mono ?_); rintro e w' ⟨rfl, rfl⟩) | (go_at_call 39; (with_reducible refine (worker_number age 0 _ _ H5.out).mono ?_); rintro e w' ⟨rfl, rfl⟩) | (go_at_call 39; (with_reducible refine (worker_number clock 0 _ _ H6.out).mono ?_); rintro e w' ⟨rfl, rfl⟩))
  have hA : BoxR (w.alloc (.cells #[.int .i64 id, .int .i64 nodes, .int .i64 next, .slice oA on oc, .int .i64 age, .int .i64 clock, .slice tA tn tc, .slice eA en ec, .slice rA rn rc] 27)) w.heap.size [.int .i64 id, .int .i64 nodes, .int .i64 next, .slice oA on oc, .int .i64 age, .int .i64 clock, .slice tA tn tc, .slice eA en ec, .slice rA rn rc] := BoxR.new w [.int .i64 id, .int .i64 nodes, .int .i64 next, .slice oA on oc, .int .i64 age, .int .i64 clock, .slice tA tn tc, .slice eA en ec, .slice rA rn rc] 27
  refine (slices_ContainsFunc_W oA on oc D.op _ (HO.out.up (belA))).mono ?_
  rintro e w1 ⟨z, rfl, hf, hb1⟩
  have HA1 := Lib.hid (hA.up hb1)
  have hg1 := HA1.out.1
  have hbw1 : Below w.heap.size w w1 := belA
  have a_0 := (HA1.out).2 0 _ rfl; have a_1 := (HA1.out).2 1 _ rfl; have a_2 := (HA1.out).2 2 _ rfl; have a_3 := (HA1.out).2 3 _ rfl; have a_4 := (HA1.out).2 4 _ rfl; have a_5 := (HA1.out).2 5 _ rfl; have a_6 := (HA1.out).2 6 _ rfl; have a_7 := (HA1.out).2 7 _ rfl; have a_8 := (HA1.out).2 8 _ rfl
  have HFX := Lib.hid hf
  clear hf hA hb1
  cases yt
  case false =>
    have hz : 0 ≤ z := by
      rcases HFX.out with ⟨_, hall⟩ | ⟨k, hk, _⟩
      · have := HTX.out
        rw [txsB_iff.2 (by rw [HO.out.1]; exact hall)] at this; cases this
      · omega
    have hzd : decide (0 ≤ z) = true := by simpa using hz
    go_wp2_with fail
    go_ret
    exact ⟨ret_bool (no_y HY.out (by rintro ⟨g1, g2, g3, g4, g5, g6, g7, g8, g9, g10, g11, g12⟩; first | omega | (cases g1; done) | (exact g1.elim) | (cases g4; done) | (cases g5; done) | (cases g6; done) | (cases g9; done) | (cases g10; done) | (cases g11; done) | (cases g12; done))), hbw1⟩
  case true =>
  have hz : ¬ 0 ≤ z := by
    rcases HFX.out with ⟨h1, _⟩ | ⟨k, hk, hkn, hkf⟩
    · omega
    · have := txsB_iff.1 HTX.out k (by rw [HO.out.1]; exact hkn)
      rw [hkf] at this; cases this
  have hzd : decide (0 ≤ z) = false := by simpa using hz
  clear hz
  have hall : yw = true → yh = true → yu = true → y = true := fun e1 e2 e3 => HY.out.2 ⟨by trivial, by assumption, by assumption, by trivial, by trivial, by trivial, by assumption, by assumption, by trivial, e1, e2, e3⟩
  have HALL := Lib.hid hall
  clear hall
  cases yw
  case' true =>
    cases yh
    case' true => cases yu
  all_goals
    go_wp2_with (first | (go_at_call 42; refine (worker_waits tA tn tc D.wa nodes _ _ (HT.out.up (belA)) HWT.out).mono ?_; rintro e w2 ⟨rfl, hb2⟩; have hB2 := HA1.out.up hb2; have d_0 := (hB2).2 0 _ rfl; have d_1 := (hB2).2 1 _ rfl; have d_2 := (hB2).2 2 _ rfl; have d_3 := (hB2).2 3 _ rfl; have d_4 := (hB2).2 4 _ rfl; have d_5 := (hB2).2 5 _ rfl; have d_6 := (hB2).2 6 _ rfl; have d_7 := (hB2).2 7 _ rfl; have d_8 := (hB2).2 8 _ rfl; have hg2 := hB2.1; clear hB2) | (go_at_call 43; refine (worker_MayHeld eA en ec D.he _ _ (HE.out.up (belA)) HHD.out).mono ?_; rintro e w3 ⟨rfl, hb3⟩; have hB3 := (HA1.out.up hb2).up hb3; have f_0 := (hB3).2 0 _ rfl; have f_1 := (hB3).2 1 _ rfl; have f_2 := (hB3).2 2 _ rfl; have f_3 := (hB3).2 3 _ rfl; have f_4 := (hB3).2 4 _ rfl; have f_5 := (hB3).2 5 _ rfl; have f_6 := (hB3).2 6 _ rfl; have f_7 := (hB3).2 7 _ rfl; have f_8 := (hB3).2 8 _ rfl; have hg3 := hB3.1; clear hB3) | (go_at_call 44; refine (worker_unlike rA rn rc D.re _ _ (HR.out.up (belA)) HSN.out).mono ?_; rintro e w4 ⟨rfl, hb4⟩))
    go_ret
    first
      | exact ⟨ret_bool (no_y HY.out (by rintro ⟨g1, g2, g3, g4, g5, g6, g7, g8, g9, g10, g11, g12⟩; first | omega | (cases g1; done) | (exact g1.elim) | (cases g4; done) | (cases g5; done) | (cases g6; done) | (cases g9; done) | (cases g10; done) | (cases g11; done) | (cases g12; done))), belA⟩
      | exact ⟨ret_bool (HALL.out (by trivial) (by trivial) (by trivial)).symm, belA⟩
end Go.Proofs.Ytgfakefcmbpboaa
