/- Low rounds taken away, at the program and at the reference. -/
import Derived.Test.YtfkbilbgndekkaaKg
namespace Go.Proofs.Ytfkbilbgndekkaa
open Go.RowKit
set_option linter.unusedSimpArgs false
set_option linter.unusedVariables false

theorem certs_from {w : World} {b off n : Nat} {l : List CertD} (h : CertsR w (some ⟨b, off, none⟩) n l) {x : Nat} (hx : x < n) : CertsR w (some ⟨b, off + x * 6, none⟩) (n - x) (l.drop x) := by
  have := h.cut (x := x) (y := n) hx (Nat.le_refl _)
  rwa [List.take_of_length_le (by rw [List.length_drop, h.1]; exact Nat.le_refl _)] at this
theorem drop_all {l : List CertD} {n : Nat} (h : l.length = n) : l.drop n = [] := List.drop_of_length_le (by omega)
theorem blk2 (w : World) (t1 t2 : TypeId) (c1 c2 : List Value) : Blk ((w.alloc (.cells c1.toArray t1)).alloc (.cells c2.toArray t2)) w.heap.size t1 c1 ∧ Blk ((w.alloc (.cells c1.toArray t1)).alloc (.cells c2.toArray t2)) (w.heap.size + 1) t2 c2 ∧ Below w.heap.size w ((w.alloc (.cells c1.toArray t1)).alloc (.cells c2.toArray t2)) ∧ w.heap.size + 2 ≤ ((w.alloc (.cells c1.toArray t1)).alloc (.cells c2.toArray t2)).heap.size := by
  refine ⟨(Blk.new w t1 c1).up (by (repeat (first | (with_reducible exact Below.refl _ _) | (with_reducible assumption) | (with_reducible apply bel_alloc) | (with_reducible apply bel_drew) | (with_reducible apply bel_drewN) | (with_reducible refine bel_trans ?_ (by with_reducible assumption)) | (with_reducible refine bel_trans ?_ (HF.out _)) | (with_reducible refine bel_set ?_ (by simp) _) | (with_reducible refine bel_set ?_ (by simp; omega) _) | (with_reducible refine bel_set ?_ (by omega) _)))), ?_, by (repeat (first | (with_reducible exact Below.refl _ _) | (with_reducible assumption) | (with_reducible apply bel_alloc) | (with_reducible apply bel_drew) | (with_reducible apply bel_drewN) | (with_reducible refine bel_trans ?_ (by with_reducible assumption)) | (with_reducible refine bel_trans ?_ (HF.out _)) | (with_reducible refine bel_set ?_ (by simp) _) | (with_reducible refine bel_set ?_ (by simp; omega) _) | (with_reducible refine bel_set ?_ (by omega) _))), by simp⟩
  have := Blk.new (w.alloc (.cells c1.toArray t1)) t2 c2
  simpa using this
/-- The ending is a DAG whose certificates lie so. -/
def RetD (nodes low : Int) (l : List CertD) (e : Ending) (w' : World) : Prop := ∃ A' m c', e = .returned (.agg #[.int .i64 nodes, .int .i64 low, .slice A' m c']) ∧ CertsR w' A' m l ∧ m ≤ c' ∧ c' ≤ 9223372036854775807
set_option maxRecDepth 100000 in
set_option maxHeartbeats 4000000 in
theorem dag_Cut (A : Option Addr) (n c : Nat) (l : List CertD) (nodes dlow low : Int) (w : World) (hl : CertsR w A n l) (hP : Places l) (hA : Auths l) (hn : n ≤ 65536) (hcap : n ≤ c) (hcb : c ≤ 9223372036854775807) (hs : Sm low) :
    Calls Try.prog 92 #[.agg #[.int .i64 nodes, .int .i64 dlow, .slice A n c], .int .i64 low] w fun e w' => RetD nodes low (trimL l low) e w' ∧ Below w.heap.size w w' := by
  have HL := Lib.hid hl
  have HN := Lib.hid hl.1
  have HP := Lib.hid hP
  have HAU := Lib.hid hA
  have hpos := posC_cut (r := low) (a := 17) hP
  obtain ⟨lo, hlo⟩ : ∃ lo, posC l low 17 = lo := ⟨_, rfl⟩
  obtain ⟨y, hy⟩ : ∃ y, hereS l low 17 lo = y := ⟨_, rfl⟩
  rw [hlo] at hpos
  have hln : lo ≤ n := by rw [← hlo, ← hl.1]; exact posC_le _ _ _
  have HTR := Lib.hid (trim_cut hA hpos (by rw [hl.1]; exact hln))
  have HLO := Lib.hid hlo
  have HY := Lib.hid hy
  have hs17 : Sm 17 := ⟨by omega, by omega⟩
  clear hl hP hA hpos hlo hy
  have key : ∀ (A0 : Option Addr), A0 = A → ∀ v : Value, (v = .slice A0 n c) → True := fun _ _ _ _ => trivial
  clear key
  rcases Nat.lt_or_ge lo n with hlt | hge
  · obtain ⟨b, off, rfl, hb, _⟩ := HL.out.2.2 (by omega)
    have hne : ¬ (c = lo) := by omega
    have hlc : lo ≤ c := by omega
    go_enter Try.func92, Try.ntmps92
    go_wp2_with fail
    obtain ⟨hX1, hX2, hbX, hzX⟩ := blk2 w 24 24 [.int .i64 nodes, .int .i64 dlow, .slice (some ⟨b, off, none⟩) n c] [.int .i64 0, .int .i64 0, .slice none 0 0]
    generalize ((w.alloc (.cells #[.int .i64 nodes, .int .i64 dlow, .slice (some ⟨b, off, none⟩) n c] 24)).alloc (.cells #[.int .i64 0, .int .i64 0, .slice none 0 0] 24)) = X at *
    rw [show (4625478292286210048 : Nat) = fl 17 from fl_17]
    refine (dag_findAt (some ⟨b, off, none⟩) n c l low 17 lo y _ (HL.out.up hbX) HP.out (by omega) hs hs17 HLO.out HY.out).mono ?_
    rintro e w1 ⟨rfl, hb1⟩
    have hbw1 : Below w.heap.size w w1 := bel_trans hbX hb1
    have hY1 := hX1.up hb1
    have hY2 := hX2.up hb1
    have hz1 : w.heap.size + 2 ≤ w1.heap.size := Nat.le_trans hzX hb1.size
    have d_0 := (hY1.box).2 0 _ rfl; have d_1 := (hY1.box).2 1 _ rfl; have d_2 := (hY1.box).2 2 _ rfl
    have k_0 := (hY2.box).2 0 _ rfl; have k_1 := (hY2.box).2 1 _ rfl; have k_2 := (hY2.box).2 2 _ rfl
    have hf1 := hY1.frozen
    have hf2 := hY2.frozen
    have hl1 := hY1.lt
    have hl2 := hY2.lt
    clear hX1 hX2
    go_wp2_with fail
    go_cut [] from 16 to 22 (fun wx => Blk wx w.heap.size 24 [.int .i64 nodes, .int .i64 low, .slice (some ⟨b, off + lo * 6, none⟩) (n - lo) (c - lo)] ∧ Blk wx (w.heap.size + 1) 24 [.int .i64 0, .int .i64 0, .slice none 0 0] ∧ Below w.heap.size w wx)
    case first =>
      go_region
      all_goals
        go_wp2_with fail
        go_meet
        exact ⟨(hY1.set_ 1 (.int .i64 low)).set_ 2 (.slice (some ⟨b, off + lo * 6, none⟩) (n - lo) (c - lo)), (hY2.far (p := ⟨w.heap.size, 1, none⟩) (by simp) (.int .i64 low)).far (p := ⟨w.heap.size, 2, none⟩) (by simp) (.slice (some ⟨b, off + lo * 6, none⟩) (n - lo) (c - lo)), by (repeat (first | (with_reducible exact Below.refl _ _) | (with_reducible assumption) | (with_reducible apply bel_alloc) | (with_reducible apply bel_drew) | (with_reducible apply bel_drewN) | (with_reducible refine bel_trans ?_ (by with_reducible assumption)) | (with_reducible refine bel_trans ?_ (HF.out _)) | ((with_reducible refine bel_set3 ?_ ?_); rotate_left; omega)))⟩
    case rest =>
    obtain ⟨hZ1, hZ2, hbwc⟩ := hcut
    clear d_0 d_1 d_2 k_0 k_1 k_2 hf1 hf2 hl1 hl2
    have d_0 := (hZ1.box).2 0 _ rfl; have d_1 := (hZ1.box).2 1 _ rfl; have d_2 := (hZ1.box).2 2 _ rfl
    have k_0 := (hZ2.box).2 0 _ rfl; have k_1 := (hZ2.box).2 1 _ rfl; have k_2 := (hZ2.box).2 2 _ rfl
    have hf2 := hZ2.frozen
    have hl2 := hZ2.lt
    have hl1 := hZ1.lt
    have hR := ((hZ2.set_ 0 (.int .i64 nodes)).set_ 1 (.int .i64 low)).set_ 2 (.slice (some ⟨b, off + lo * 6, none⟩) (n - lo) (c - lo))
    have r_0 := (hR.box).2 0 _ rfl; have r_1 := (hR.box).2 1 _ rfl; have r_2 := (hR.box).2 2 _ rfl
    clear hR
    go_wp2_with fail
    have hbW : Below w.heap.size w (((wc.setCell ⟨w.heap.size + 1, 0, none⟩ (.int .i64 nodes)).setCell ⟨w.heap.size + 1, 1, none⟩ (.int .i64 low)).setCell ⟨w.heap.size + 1, 2, none⟩ (.slice (some ⟨b, off + lo * 6, none⟩) (n - lo) (c - lo))) := by (repeat (first | (with_reducible exact Below.refl _ _) | (with_reducible assumption) | (with_reducible apply bel_alloc) | (with_reducible apply bel_drew) | (with_reducible apply bel_drewN) | (with_reducible refine bel_trans ?_ (by with_reducible assumption)) | (with_reducible refine bel_trans ?_ (HF.out _)) | ((with_reducible refine bel_set3 ?_ ?_); rotate_left; omega)))
    exact bodyPost_ret (v := .agg #[.int .i64 nodes, .int .i64 low, .slice (some ⟨b, off + lo * 6, none⟩) (n - lo) (c - lo)]) (by simp [results, Try.results92, go_sem, r_0, r_1, r_2]) rfl ⟨⟨_, _, _, rfl, by rw [HTR.out]; exact certs_from (HL.out.up hbW) hlt, by omega, by omega⟩, hbW⟩
  · obtain rfl : lo = n := by omega
    cases A with
    | none =>
      go_enter Try.func92, Try.ntmps92
      go_wp2_with fail
      obtain ⟨hX1, hX2, hbX, hzX⟩ := blk2 w 24 24 [.int .i64 nodes, .int .i64 dlow, .slice none lo c] [.int .i64 0, .int .i64 0, .slice none 0 0]
      generalize ((w.alloc (.cells #[.int .i64 nodes, .int .i64 dlow, .slice none lo c] 24)).alloc (.cells #[.int .i64 0, .int .i64 0, .slice none 0 0] 24)) = X at *
      rw [show (4625478292286210048 : Nat) = fl 17 from fl_17]
      refine (dag_findAt none lo c l low 17 lo y _ (HL.out.up hbX) HP.out (by omega) hs hs17 HLO.out HY.out).mono ?_
      rintro e w1 ⟨rfl, hb1⟩
      have hbw1 : Below w.heap.size w w1 := bel_trans hbX hb1
      have hY1 := hX1.up hb1
      have hY2 := hX2.up hb1
      have hz1 : w.heap.size + 2 ≤ w1.heap.size := Nat.le_trans hzX hb1.size
      have d_0 := (hY1.box).2 0 _ rfl; have d_1 := (hY1.box).2 1 _ rfl; have d_2 := (hY1.box).2 2 _ rfl
      have k_0 := (hY2.box).2 0 _ rfl; have k_1 := (hY2.box).2 1 _ rfl; have k_2 := (hY2.box).2 2 _ rfl
      have hf1 := hY1.frozen
      have hf2 := hY2.frozen
      have hl1 := hY1.lt
      have hl2 := hY2.lt
      clear hX1 hX2
      go_wp2_with fail
      go_cut [] from 16 to 22 (fun wx => ∃ (A' : Option Addr) (c' : Nat), Blk wx w.heap.size 24 [.int .i64 nodes, .int .i64 low, .slice A' 0 c'] ∧ Blk wx (w.heap.size + 1) 24 [.int .i64 0, .int .i64 0, .slice none 0 0] ∧ c' ≤ 9223372036854775807 ∧ Below w.heap.size w wx)
      case first =>
        go_region
        all_goals
          go_wp2_with fail
          go_meet
          exact ⟨_, _, (hY1.set_ 1 (.int .i64 low)).set_ 2 _, (hY2.far (p := ⟨w.heap.size, 1, none⟩) (by simp) (.int .i64 low)).far (p := ⟨w.heap.size, 2, none⟩) (by simp) _, by omega, by (repeat (first | (with_reducible exact Below.refl _ _) | (with_reducible assumption) | (with_reducible apply bel_alloc) | (with_reducible apply bel_drew) | (with_reducible apply bel_drewN) | (with_reducible refine bel_trans ?_ (by with_reducible assumption)) | (with_reducible refine bel_trans ?_ (HF.out _)) | ((with_reducible refine bel_set3 ?_ ?_); rotate_left; omega)))⟩
      case rest =>
      obtain ⟨A', c', hZ1, hZ2, hc', hbwc⟩ := hcut
      clear d_0 d_1 d_2 k_0 k_1 k_2 hf1 hf2 hl1 hl2
      have d_0 := (hZ1.box).2 0 _ rfl; have d_1 := (hZ1.box).2 1 _ rfl; have d_2 := (hZ1.box).2 2 _ rfl
      have k_0 := (hZ2.box).2 0 _ rfl; have k_1 := (hZ2.box).2 1 _ rfl; have k_2 := (hZ2.box).2 2 _ rfl
      have hf2 := hZ2.frozen
      have hl2 := hZ2.lt
      have hl1 := hZ1.lt
      have hR := ((hZ2.set_ 0 (.int .i64 nodes)).set_ 1 (.int .i64 low)).set_ 2 (.slice A' 0 c')
      have r_0 := (hR.box).2 0 _ rfl; have r_1 := (hR.box).2 1 _ rfl; have r_2 := (hR.box).2 2 _ rfl
      clear hR
      go_wp2_with fail
      have hbW : Below w.heap.size w (((wc.setCell ⟨w.heap.size + 1, 0, none⟩ (.int .i64 nodes)).setCell ⟨w.heap.size + 1, 1, none⟩ (.int .i64 low)).setCell ⟨w.heap.size + 1, 2, none⟩ (.slice A' 0 c')) := by (repeat (first | (with_reducible exact Below.refl _ _) | (with_reducible assumption) | (with_reducible apply bel_alloc) | (with_reducible apply bel_drew) | (with_reducible apply bel_drewN) | (with_reducible refine bel_trans ?_ (by with_reducible assumption)) | (with_reducible refine bel_trans ?_ (HF.out _)) | ((with_reducible refine bel_set3 ?_ ?_); rotate_left; omega)))
      exact bodyPost_ret (v := .agg #[.int .i64 nodes, .int .i64 low, .slice A' 0 c']) (by simp [results, Try.results92, go_sem, r_0, r_1, r_2]) rfl ⟨⟨_, _, _, rfl, by rw [HTR.out, drop_all HN.out]; exact CertsR.none, by omega, by omega⟩, hbW⟩
    | some a =>
      obtain ⟨b, off, sp⟩ := a
      by_cases hcn : c = lo
      · subst hcn
        go_enter Try.func92, Try.ntmps92
        go_wp2_with fail
        obtain ⟨hX1, hX2, hbX, hzX⟩ := blk2 w 24 24 [.int .i64 nodes, .int .i64 dlow, .slice (some ⟨b, off, sp⟩) c c] [.int .i64 0, .int .i64 0, .slice none 0 0]
        generalize ((w.alloc (.cells #[.int .i64 nodes, .int .i64 dlow, .slice (some ⟨b, off, sp⟩) c c] 24)).alloc (.cells #[.int .i64 0, .int .i64 0, .slice none 0 0] 24)) = X at *
        rw [show (4625478292286210048 : Nat) = fl 17 from fl_17]
        refine (dag_findAt (some ⟨b, off, sp⟩) c c l low 17 c y _ (HL.out.up hbX) HP.out (by omega) hs hs17 HLO.out HY.out).mono ?_
        rintro e w1 ⟨rfl, hb1⟩
        have hbw1 : Below w.heap.size w w1 := bel_trans hbX hb1
        have hY1 := hX1.up hb1
        have hY2 := hX2.up hb1
        have hz1 : w.heap.size + 2 ≤ w1.heap.size := Nat.le_trans hzX hb1.size
        have d_0 := (hY1.box).2 0 _ rfl; have d_1 := (hY1.box).2 1 _ rfl; have d_2 := (hY1.box).2 2 _ rfl
        have k_0 := (hY2.box).2 0 _ rfl; have k_1 := (hY2.box).2 1 _ rfl; have k_2 := (hY2.box).2 2 _ rfl
        have hf1 := hY1.frozen
        have hf2 := hY2.frozen
        have hl1 := hY1.lt
        have hl2 := hY2.lt
        clear hX1 hX2
        go_wp2_with fail
        go_cut [] from 16 to 22 (fun wx => ∃ (A' : Option Addr) (c' : Nat), Blk wx w.heap.size 24 [.int .i64 nodes, .int .i64 low, .slice A' 0 c'] ∧ Blk wx (w.heap.size + 1) 24 [.int .i64 0, .int .i64 0, .slice none 0 0] ∧ c' ≤ 9223372036854775807 ∧ Below w.heap.size w wx)
        case first =>
          go_region
          all_goals
            go_wp2_with fail
            go_meet
            exact ⟨_, _, (hY1.set_ 1 (.int .i64 low)).set_ 2 _, (hY2.far (p := ⟨w.heap.size, 1, none⟩) (by simp) (.int .i64 low)).far (p := ⟨w.heap.size, 2, none⟩) (by simp) _, by omega, by (repeat (first | (with_reducible exact Below.refl _ _) | (with_reducible assumption) | (with_reducible apply bel_alloc) | (with_reducible apply bel_drew) | (with_reducible apply bel_drewN) | (with_reducible refine bel_trans ?_ (by with_reducible assumption)) | (with_reducible refine bel_trans ?_ (HF.out _)) | ((with_reducible refine bel_set3 ?_ ?_); rotate_left; omega)))⟩
        case rest =>
        obtain ⟨A', c', hZ1, hZ2, hc', hbwc⟩ := hcut
        clear d_0 d_1 d_2 k_0 k_1 k_2 hf1 hf2 hl1 hl2
        have d_0 := (hZ1.box).2 0 _ rfl; have d_1 := (hZ1.box).2 1 _ rfl; have d_2 := (hZ1.box).2 2 _ rfl
        have k_0 := (hZ2.box).2 0 _ rfl; have k_1 := (hZ2.box).2 1 _ rfl; have k_2 := (hZ2.box).2 2 _ rfl
        have hf2 := hZ2.frozen
        have hl2 := hZ2.lt
        have hl1 := hZ1.lt
        have hR := ((hZ2.set_ 0 (.int .i64 nodes)).set_ 1 (.int .i64 low)).set_ 2 (.slice A' 0 c')
        have r_0 := (hR.box).2 0 _ rfl; have r_1 := (hR.box).2 1 _ rfl; have r_2 := (hR.box).2 2 _ rfl
        clear hR
        go_wp2_with fail
        have hbW : Below w.heap.size w (((wc.setCell ⟨w.heap.size + 1, 0, none⟩ (.int .i64 nodes)).setCell ⟨w.heap.size + 1, 1, none⟩ (.int .i64 low)).setCell ⟨w.heap.size + 1, 2, none⟩ (.slice A' 0 c')) := by (repeat (first | (with_reducible exact Below.refl _ _) | (with_reducible assumption) | (with_reducible apply bel_alloc) | (with_reducible apply bel_drew) | (with_reducible apply bel_drewN) | (with_reducible refine bel_trans ?_ (by with_reducible assumption)) | (with_reducible refine bel_trans ?_ (HF.out _)) | ((with_reducible refine bel_set3 ?_ ?_); rotate_left; omega)))
        exact bodyPost_ret (v := .agg #[.int .i64 nodes, .int .i64 low, .slice A' 0 c']) (by simp [results, Try.results92, go_sem, r_0, r_1, r_2]) rfl ⟨⟨_, _, _, rfl, by rw [HTR.out, drop_all HN.out]; exact CertsR.none, by omega, by omega⟩, hbW⟩
      · have hlc : lo ≤ c := hcap
        go_enter Try.func92, Try.ntmps92
        go_wp2_with fail
        obtain ⟨hX1, hX2, hbX, hzX⟩ := blk2 w 24 24 [.int .i64 nodes, .int .i64 dlow, .slice (some ⟨b, off, sp⟩) lo c] [.int .i64 0, .int .i64 0, .slice none 0 0]
        generalize ((w.alloc (.cells #[.int .i64 nodes, .int .i64 dlow, .slice (some ⟨b, off, sp⟩) lo c] 24)).alloc (.cells #[.int .i64 0, .int .i64 0, .slice none 0 0] 24)) = X at *
        rw [show (4625478292286210048 : Nat) = fl 17 from fl_17]
        refine (dag_findAt (some ⟨b, off, sp⟩) lo c l low 17 lo y _ (HL.out.up hbX) HP.out (by omega) hs hs17 HLO.out HY.out).mono ?_
        rintro e w1 ⟨rfl, hb1⟩
        have hbw1 : Below w.heap.size w w1 := bel_trans hbX hb1
        have hY1 := hX1.up hb1
        have hY2 := hX2.up hb1
        have hz1 : w.heap.size + 2 ≤ w1.heap.size := Nat.le_trans hzX hb1.size
        have d_0 := (hY1.box).2 0 _ rfl; have d_1 := (hY1.box).2 1 _ rfl; have d_2 := (hY1.box).2 2 _ rfl
        have k_0 := (hY2.box).2 0 _ rfl; have k_1 := (hY2.box).2 1 _ rfl; have k_2 := (hY2.box).2 2 _ rfl
        have hf1 := hY1.frozen
        have hf2 := hY2.frozen
        have hl1 := hY1.lt
        have hl2 := hY2.lt
        clear hX1 hX2
        go_wp2_with fail
        go_cut [] from 16 to 22 (fun wx => ∃ (A' : Option Addr) (c' : Nat), Blk wx w.heap.size 24 [.int .i64 nodes, .int .i64 low, .slice A' 0 c'] ∧ Blk wx (w.heap.size + 1) 24 [.int .i64 0, .int .i64 0, .slice none 0 0] ∧ c' ≤ 9223372036854775807 ∧ Below w.heap.size w wx)
        case first =>
          go_region
          all_goals
            go_wp2_with fail
            go_meet
            exact ⟨_, _, (hY1.set_ 1 (.int .i64 low)).set_ 2 _, (hY2.far (p := ⟨w.heap.size, 1, none⟩) (by simp) (.int .i64 low)).far (p := ⟨w.heap.size, 2, none⟩) (by simp) _, by omega, by (repeat (first | (with_reducible exact Below.refl _ _) | (with_reducible assumption) | (with_reducible apply bel_alloc) | (with_reducible apply bel_drew) | (with_reducible apply bel_drewN) | (with_reducible refine bel_trans ?_ (by with_reducible assumption)) | (with_reducible refine bel_trans ?_ (HF.out _)) | ((with_reducible refine bel_set3 ?_ ?_); rotate_left; omega)))⟩
        case rest =>
        obtain ⟨A', c', hZ1, hZ2, hc', hbwc⟩ := hcut
        clear d_0 d_1 d_2 k_0 k_1 k_2 hf1 hf2 hl1 hl2
        have d_0 := (hZ1.box).2 0 _ rfl; have d_1 := (hZ1.box).2 1 _ rfl; have d_2 := (hZ1.box).2 2 _ rfl
        have k_0 := (hZ2.box).2 0 _ rfl; have k_1 := (hZ2.box).2 1 _ rfl; have k_2 := (hZ2.box).2 2 _ rfl
        have hf2 := hZ2.frozen
        have hl2 := hZ2.lt
        have hl1 := hZ1.lt
        have hR := ((hZ2.set_ 0 (.int .i64 nodes)).set_ 1 (.int .i64 low)).set_ 2 (.slice A' 0 c')
        have r_0 := (hR.box).2 0 _ rfl; have r_1 := (hR.box).2 1 _ rfl; have r_2 := (hR.box).2 2 _ rfl
        clear hR
        go_wp2_with fail
        have hbW : Below w.heap.size w (((wc.setCell ⟨w.heap.size + 1, 0, none⟩ (.int .i64 nodes)).setCell ⟨w.heap.size + 1, 1, none⟩ (.int .i64 low)).setCell ⟨w.heap.size + 1, 2, none⟩ (.slice A' 0 c')) := by (repeat (first | (with_reducible exact Below.refl _ _) | (with_reducible assumption) | (with_reducible apply bel_alloc) | (with_reducible apply bel_drew) | (with_reducible apply bel_drewN) | (with_reducible refine bel_trans ?_ (by with_reducible assumption)) | (with_reducible refine bel_trans ?_ (HF.out _)) | ((with_reducible refine bel_set3 ?_ ?_); rotate_left; omega)))
        exact bodyPost_ret (v := .agg #[.int .i64 nodes, .int .i64 low, .slice A' 0 c']) (by simp [results, Try.results92, go_sem, r_0, r_1, r_2]) rfl ⟨⟨_, _, _, rfl, by rw [HTR.out, drop_all HN.out]; exact CertsR.none, by omega, by omega⟩, hbW⟩
end Go.Proofs.Ytfkbilbgndekkaa
