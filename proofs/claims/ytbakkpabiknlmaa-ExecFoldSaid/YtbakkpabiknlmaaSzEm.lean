/- droverlaw23: wakes. -/
import Derived.Test.YtbakkpabiknlmaaSzEk
namespace Go.Proofs.Ytbakkpabiknlmaa
open Go.RowKit
set_option linter.unusedSimpArgs false
set_option linter.unusedVariables false

theorem IntsR.box {w : World} {g : Nat} {l : List Int} (h : BoxR w g (l.map (Value.int .i64))) (hl : l.length ≤ 9223372036854775807) : IntsR w (some ⟨g, 0, none⟩) l.length l :=
  ⟨rfl, hl, fun _ => ⟨g, 0, rfl, h.1, fun j hj => by rw [Nat.zero_add]; exact h.2 j _ (by simp [nth, hj])⟩⟩
def wkB : BatchD := ⟨1, 1, [wkX]⟩
def wkH : HeldD := ⟨3, wkB⟩
theorem wk23_may0 : exB [] [] [] 0 = true := exB_iff.2 ⟨MayT.nil, ⟨fun j hj => absurd hj (by simp), List.nodup_nil⟩, by omega, by simp⟩
theorem wk23_dig : betS [3] 1 65536 = true := betD_iff.2 (by
  intro j hj
  have : j = 0 := by simpa using hj
  subst this
  simp [nth])
theorem wk23_fresh : freshL [] [3] = [3] := by simp [freshL]
theorem wk23_may1 : exB [] [] [3] ((0 : Nat) : Int) = true := exB_iff.2 ⟨MayT.nil, ⟨betD_iff.1 wk23_dig, by simp⟩, by omega, by simp⟩
theorem wk23_tx : txS wkX = true := (okT_iff.1 wk_ok22).1
theorem wk23_held : hdB [wkH] = true := hdB_iff.2 (by
  intro k hk
  have : k = 0 := by simpa using hk
  subst this
  refine ⟨by decide, bmT_iff.2 ⟨by decide, by decide, by decide, by decide, by decide, by decide, fun j hj => ?_⟩, fun h => absurd h (by omega)⟩
  have : j = 0 := by simp [hth, wkH, wkB] at hj; omega
  subst this
  exact wk23_tx)
theorem wk23_pos : kposH [wkH] 3 = 0 := by simp [kposH, cnt, wkH, ltI]
theorem wk23_has : khasH [wkH] 3 = true := dec_iff.2 ⟨by rw [wk23_pos]; simp, by rw [wk23_pos]; rfl⟩
theorem wk23_step : ∃ FP FQ, stepR [wkH] ([3] : List Int) [] [] = ((FP, FQ), 1) ∧ FP.length = 1 := by
  refine ⟨(runT [wkX] [] []).1, (runT [wkX] [] []).2, ?_, ?_⟩
  · unfold stepR
    rw [if_pos wk23_has, wk23_pos]
    rfl
  · have h := doP_yes wk_ok22
    show (doP [] [] wkX).length = 1
    rw [h.1]
    unfold setP
    have hv : ¬ wkX.v.size = 0 := by decide
    rw [if_neg hv, if_neg (by rw [khasP_nil]; simp)]
    simp [kposP, cnt]
set_option maxRecDepth 100000 in
set_option maxHeartbeats 4000000 in
theorem law23_wakes (w : World) : Calls Try.prog 19 #[] w fun e w' => e = .returned (.bool true) ∧ Below w.heap.size w w' := by
  obtain ⟨FP, FQ, hst, hfl⟩ := wk23_step
  have HST := Lib.hid hst
  have HFL := Lib.hid hfl
  clear hst hfl
  go_enter Try.func19, Try.ntmps19
  go_wp2_with fail
  have hI : IntsR (w.alloc (.cells #[.int .i64 3] 3)) (some ⟨w.heap.size, 0, none⟩) 1 [3] := IntsR.box (l := [3]) (BoxR.new w [.int .i64 3] 3) (by simp)
  refine (exec_Push_ok none none none (some ⟨w.heap.size, 0, none⟩) 0 0 0 0 0 0 1 1 [] [] [] [3] 0 _ (PairsR.nil0 _) (AcctsR.nil0 _) (IntsR.nil _ _) hI wk23_may0 wk23_dig (by omega) (by omega)).mono ?_
  rintro e w1 ⟨vp, va, vs, vf, rfl, hP, hb1⟩
  rw [wk23_fresh, List.nil_append] at hP
  obtain ⟨Ap, cp, rfl, hpr⟩ := nmP (n := 0) hP.e.p rfl (by omega)
  obtain ⟨Aa, ca, rfl, har⟩ := nmA (n := 0) hP.e.a rfl (by omega)
  obtain ⟨As, cs, rfl, hsr⟩ := nmI (n := 1) hP.e.s rfl (by omega)
  obtain ⟨Af, cf, rfl, _⟩ := nmI (n := 1) hP.f rfl (by omega)
  have hbw1 : Below w.heap.size w w1 := by (repeat (first | (with_reducible exact Below.refl _ _) | (with_reducible assumption) | (with_reducible apply bel_alloc) | (with_reducible apply bel_drew) | (with_reducible apply bel_drewN) | (with_reducible refine bel_trans ?_ (by with_reducible assumption)) | (with_reducible refine bel_trans ?_ (HF.out _)) | (with_reducible refine bel_set ?_ (by simp) _) | (with_reducible refine bel_set ?_ (by simp; omega) _) | (with_reducible refine bel_set ?_ (by omega) _)))
  have HPR := Lib.hid hpr
  have HAR := Lib.hid har
  have HSR := Lib.hid hsr
  clear hP hI hpr har hsr hb1
  go_wp2_with fail
  have hb2 : Below w1.heap.size w1 (((w1.alloc (.cells #[.slice Ap 0 cp, .slice Aa 0 ca, .slice As 1 cs, .int .i64 0] 28)).alloc (.cells #[.int .i64 1, .int .i64 1, .string { data := #[107] }, .string { data := #[118] }] 81)).alloc (.cells #[.int .i64 3, .int .i64 1, .int .i64 1, .slice (some ⟨w1.heap.size + 1, 0, none⟩) 1 1] 44)) := by (repeat (first | (with_reducible exact Below.refl _ _) | (with_reducible assumption) | (with_reducible apply bel_alloc) | (with_reducible apply bel_drew) | (with_reducible apply bel_drewN) | (with_reducible refine bel_trans ?_ (by with_reducible assumption)) | (with_reducible refine bel_trans ?_ (HF.out _)) | (with_reducible refine bel_set ?_ (by simp) _) | (with_reducible refine bel_set ?_ (by simp; omega) _) | (with_reducible refine bel_set ?_ (by omega) _)))
  have hX0 : BoxR (((w1.alloc (.cells #[.slice Ap 0 cp, .slice Aa 0 ca, .slice As 1 cs, .int .i64 0] 28)).alloc (.cells #[.int .i64 1, .int .i64 1, .string { data := #[107] }, .string { data := #[118] }] 81)).alloc (.cells #[.int .i64 3, .int .i64 1, .int .i64 1, .slice (some ⟨w1.heap.size + 1, 0, none⟩) 1 1] 44)) (w1.heap.size + 1) (encX wkX) := by
    have := (BoxR.new (w1.alloc (.cells #[.slice Ap 0 cp, .slice Aa 0 ca, .slice As 1 cs, .int .i64 0] 28)) [.int .i64 1, .int .i64 1, .string { data := #[107] }, .string { data := #[118] }] 81).up (w' := (((w1.alloc (.cells #[.slice Ap 0 cp, .slice Aa 0 ca, .slice As 1 cs, .int .i64 0] 28)).alloc (.cells #[.int .i64 1, .int .i64 1, .string { data := #[107] }, .string { data := #[118] }] 81)).alloc (.cells #[.int .i64 3, .int .i64 1, .int .i64 1, .slice (some ⟨w1.heap.size + 1, 0, none⟩) 1 1] 44))) (by (repeat (first | (with_reducible exact Below.refl _ _) | (with_reducible assumption) | (with_reducible apply bel_alloc) | (with_reducible apply bel_drew) | (with_reducible apply bel_drewN) | (with_reducible refine bel_trans ?_ (by with_reducible assumption)) | (with_reducible refine bel_trans ?_ (HF.out _)) | (with_reducible refine bel_set ?_ (by simp) _) | (with_reducible refine bel_set ?_ (by simp; omega) _) | (with_reducible refine bel_set ?_ (by omega) _))))
    have e : (w1.alloc (.cells #[.slice Ap 0 cp, .slice Aa 0 ca, .slice As 1 cs, .int .i64 0] 28)).heap.size = w1.heap.size + 1 := by simp
    rw [e] at this
    exact this
  have hX1 : BoxR (((w1.alloc (.cells #[.slice Ap 0 cp, .slice Aa 0 ca, .slice As 1 cs, .int .i64 0] 28)).alloc (.cells #[.int .i64 1, .int .i64 1, .string { data := #[107] }, .string { data := #[118] }] 81)).alloc (.cells #[.int .i64 3, .int .i64 1, .int .i64 1, .slice (some ⟨w1.heap.size + 1, 0, none⟩) 1 1] 44)) (w1.heap.size + 1 + 1) [.int .i64 3, .int .i64 1, .int .i64 1, .slice (some ⟨w1.heap.size + 1, 0, none⟩) 1 1] := BoxR.new' _ _ _ (by simp)
  have hXE : Blk (((w1.alloc (.cells #[.slice Ap 0 cp, .slice Aa 0 ca, .slice As 1 cs, .int .i64 0] 28)).alloc (.cells #[.int .i64 1, .int .i64 1, .string { data := #[107] }, .string { data := #[118] }] 81)).alloc (.cells #[.int .i64 3, .int .i64 1, .int .i64 1, .slice (some ⟨w1.heap.size + 1, 0, none⟩) 1 1] 44)) w1.heap.size 28 [.slice Ap 0 cp, .slice Aa 0 ca, .slice As 1 cs, .int .i64 0] := (Blk.new w1 28 [.slice Ap 0 cp, .slice Aa 0 ca, .slice As 1 cs, .int .i64 0]).up (by (repeat (first | (with_reducible exact Below.refl _ _) | (with_reducible assumption) | (with_reducible apply bel_alloc) | (with_reducible apply bel_drew) | (with_reducible apply bel_drewN) | (with_reducible refine bel_trans ?_ (by with_reducible assumption)) | (with_reducible refine bel_trans ?_ (HF.out _)) | (with_reducible refine bel_set ?_ (by simp) _) | (with_reducible refine bel_set ?_ (by simp; omega) _) | (with_reducible refine bel_set ?_ (by omega) _))))
  generalize (((w1.alloc (.cells #[.slice Ap 0 cp, .slice Aa 0 ca, .slice As 1 cs, .int .i64 0] 28)).alloc (.cells #[.int .i64 1, .int .i64 1, .string { data := #[107] }, .string { data := #[118] }] 81)).alloc (.cells #[.int .i64 3, .int .i64 1, .int .i64 1, .slice (some ⟨w1.heap.size + 1, 0, none⟩) 1 1] 44)) = X at *
  have hT : TxsR X (some ⟨w1.heap.size + 1, 0, none⟩) 1 [wkX] := ⟨rfl, by simp [flat, encX], by omega, fun _ => ⟨_, _, rfl, hX0.1, fun j u hj => by rw [Nat.zero_add]; exact hX0.2 j u (by simpa [flat] using hj)⟩⟩
  have hH : HeldsR X (some ⟨w1.heap.size + 1 + 1, 0, none⟩) 1 [wkH] := ⟨rfl, by omega, fun _ => ⟨_, _, rfl, hX1.1, fun j hj => by
    obtain rfl : j = 0 := by omega
    exact ⟨_, _, _, ⟨hX1.2 0 _ rfl, hX1.2 1 _ rfl, hX1.2 2 _ rfl, hX1.2 3 _ rfl⟩, hT⟩⟩⟩
  have HXE := Lib.hid hXE
  clear hX0 hX1 hXE hT
  refine (exec_Step_ok Ap Aa As (some ⟨w1.heap.size + 1 + 1, 0, none⟩) 0 cp 0 ca 1 cs 1 1 [] [] [3] [wkH] 0 FP FQ 1 _ (HPR.out.up hb2) (HAR.out.up hb2) (HSR.out.up hb2) hH wk23_may1 wk23_held (by omega) (by omega) HST.out).mono ?_
  rintro e w2 ⟨vp2, va2, vs2, rfl, hE, hb3⟩
  obtain ⟨Ap2, cp2, rfl, _⟩ := nmP hE.p HFL.out (by omega)
  obtain ⟨n6, hn6⟩ : ∃ n6, FQ.length = n6 := ⟨_, rfl⟩
  have hq4 : n6 ≤ 4096 := by rw [← hn6]; have := (stepR_may [wkH] [3] MayT.nil).1.2.1; rw [HST.out] at this; exact this
  obtain ⟨Aa2, ca2, rfl, _⟩ := nmA hE.a hn6 (by omega)
  obtain ⟨As2, cs2, rfl, _⟩ := nmI (n := 1) hE.s rfl (by omega)
  have hXE2 := HXE.out.up hb3
  have x_0 := (hXE2.box).2 0 _ rfl; have x_1 := (hXE2.box).2 1 _ rfl; have x_2 := (hXE2.box).2 2 _ rfl; have x_3 := (hXE2.box).2 3 _ rfl
  have hxf := hXE2.frozen
  have hxl := hXE2.lt
  have hX5 := set4 hXE2 (.slice Ap2 1 cp2) (.slice Aa2 n6 ca2) (.slice As2 1 cs2) (.int .i64 (((0 : Nat) : Int) + ((1 : Nat) : Int)))
  have y_0 := (hX5.box).2 0 _ rfl; have y_1 := (hX5.box).2 1 _ rfl; have y_2 := (hX5.box).2 2 _ rfl; have y_3 := (hX5.box).2 3 _ rfl
  have hbw2 : Below w.heap.size w w2 := by (repeat (first | (with_reducible exact Below.refl _ _) | (with_reducible assumption) | (with_reducible apply bel_alloc) | (with_reducible apply bel_drew) | (with_reducible apply bel_drewN) | (with_reducible refine bel_trans ?_ (by with_reducible assumption)) | (with_reducible refine bel_trans ?_ (HF.out _)) | (with_reducible refine bel_set ?_ (by simp) _) | (with_reducible refine bel_set ?_ (by simp; omega) _) | (with_reducible refine bel_set ?_ (by omega) _)))
  have hzw := hbw1.size
  clear hE hXE2 hX5 hn6
  go_wp2_with (go_at_call 11; refine (law23_num _ _).mono ?_; rintro e w' ⟨rfl, rfl⟩)
  go_ret
  exact ⟨rfl, by (repeat (first | (with_reducible exact Below.refl _ _) | (with_reducible assumption) | (with_reducible apply bel_alloc) | (with_reducible apply bel_drew) | (with_reducible apply bel_drewN) | (with_reducible refine bel_trans ?_ (by with_reducible assumption)) | (with_reducible refine bel_trans ?_ (HF.out _)) | ((with_reducible refine bel_set3 ?_ ?_); rotate_left; omega)))⟩
end Go.Proofs.Ytbakkpabiknlmaa
