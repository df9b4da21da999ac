/- A round's anchor, at the program: a statement whose parts may come in any order, walked by hand. -/
import Derived.Test.YtfkbilbgndekkaaFb
import Derived.Test.YtfkbilbgndekkaaL
namespace Go.Proofs.Ytfkbilbgndekkaa
open Go.RowKit
set_option linter.unusedSimpArgs false
set_option linter.unusedVariables false

theorem bel_setB {B : Nat} {w x : World} {b o : Nat} {v : Value} (h : Below B w x) (hp : B ≤ b) : Below B w (x.setCell ⟨b, o, none⟩ v) := h.setCell hp v
theorem keep4 {B : Nat} {w1 X : World} {g : Nat} {a b c : Option Value} (h : g < B) (k0 : w1.cell? ⟨g, 0, none⟩ = a) (k1 : w1.cell? ⟨g, 1, none⟩ = b) (k2 : w1.cell? ⟨g, 2, none⟩ = c) (hb : Below B w1 X) : X.cell? ⟨g, 0, none⟩ = a ∧ X.cell? ⟨g, 1, none⟩ = b ∧ X.cell? ⟨g, 2, none⟩ = c :=
  ⟨(hb.cell (p := ⟨g, 0, none⟩) h).trans k0, (hb.cell (p := ⟨g, 1, none⟩) h).trans k1, (hb.cell (p := ⟨g, 2, none⟩) h).trans k2⟩
set_option maxRecDepth 100000 in
set_option maxHeartbeats 2000000 in
theorem anchor_Of_none (A : Option Addr) (n c : Nat) (D : DagD) (r : Int) (w : World) (hl : CertsR w A n D.certs) (hP : Places D.certs) (hn : n ≤ 1000000000) (h1 : 1 ≤ D.nodes) (h2 : D.nodes ≤ 16) (h3 : 2 ≤ r) (h4 : r ≤ 1099511627776) (ea : atS D.certs r (leadS D.nodes r) = -1) :
    Calls Try.prog 78 #[.agg #[.int .i64 D.nodes, .int .i64 D.low, .slice A n c], .int .i64 r] w fun e w' => e = .returned (.int .i64 (anchS D r)) ∧ Below w.heap.size w w' := by
  have HL := Lib.hid hl
  have HP := Lib.hid hP
  have hlb := leadS_bd (n := D.nodes) (r := r) h1
  have hs1 : Sm r := ⟨by omega, by omega⟩
  have hs2 : Sm (leadS D.nodes r) := ⟨by omega, by omega⟩
  have HS1 := Lib.hid hs1
  have HS2 := Lib.hid hs2
  have hq := anch_none ea
  have EA := Lib.hid ea
  have HQ := Lib.hid hq
  clear hl hP hlb ea hq hs1 hs2
  go_enter Try.func78, Try.ntmps78
  go_wp2_with fail
  have k0 : (w.alloc (.cells #[.int .i64 D.nodes, .int .i64 D.low, .slice A n c] 24)).drew.cell? ⟨w.heap.size, 0, none⟩ = some (.int .i64 D.nodes) := by simp
  have k1 : (w.alloc (.cells #[.int .i64 D.nodes, .int .i64 D.low, .slice A n c] 24)).drew.cell? ⟨w.heap.size, 1, none⟩ = some (.int .i64 D.low) := by simp
  have k2 : (w.alloc (.cells #[.int .i64 D.nodes, .int .i64 D.low, .slice A n c] 24)).drew.cell? ⟨w.heap.size, 2, none⟩ = some (.slice A n c) := by simp
  have hbw : Below w.heap.size w (w.alloc (.cells #[.int .i64 D.nodes, .int .i64 D.low, .slice A n c] 24)).drew := bel_drew (bel_alloc (Below.refl _ _))
  have hsz : w.heap.size < (w.alloc (.cells #[.int .i64 D.nodes, .int .i64 D.low, .slice A n c] 24)).drew.heap.size := by simp
  refine wp_region_held_drew (S := fun w' => w'.cell? ⟨w.heap.size, 0, none⟩ = some (.int .i64 D.nodes) ∧ w'.cell? ⟨w.heap.size, 1, none⟩ = some (.int .i64 D.low) ∧ w'.cell? ⟨w.heap.size, 2, none⟩ = some (.slice A n c)) (by kernel_rfl) ⟨k0, k1, k2⟩ (fun hHeld => ?_)
  (refine wpAnyH_take' (i := 0) (d := some 8) (v := ?_) rfl rfl (by kernel_rfl) (by kernel_rfl) (by kernel_rfl) (fun _ _ _ h => h) (Or.inl ⟨by rfl, ?_⟩) (by assumption) ?_)
  rotate_left
  focus
    intro wq hSw
    (try dsimp only at hSw)
    go_simp
    all_goals (with_reducible rfl)
  simp only [Act.put, List.setIfInBounds_toArray, List.set_cons_zero, List.set_cons_succ]
  (refine wpAnyH_take' (i := 1) (d := some 9) (v := ?_) rfl rfl (by kernel_rfl) (by kernel_rfl) (by kernel_rfl) (fun _ _ _ h => h) (Or.inl ⟨by rfl, ?_⟩) (by assumption) ?_)
  rotate_left
  focus
    intro wq hSw
    (try dsimp only at hSw)
    go_simp
    all_goals (with_reducible rfl)
  simp only [Act.put, List.setIfInBounds_toArray, List.set_cons_zero, List.set_cons_succ]
  (refine wpAnyH_take' (i := 2) (d := some 10) (v := ?_) rfl rfl (by kernel_rfl) (by kernel_rfl) (by kernel_rfl) (fun _ _ _ h => h) (Or.inl ⟨by rfl, ?_⟩) (by assumption) ?_)
  rotate_left
  focus
    intro wq hSw
    (try dsimp only at hSw)
    go_simp
    all_goals (with_reducible rfl)
  simp only [Act.put, List.setIfInBounds_toArray, List.set_cons_zero, List.set_cons_succ]
  (refine wpAnyH_take' (i := 3) (d := some 11) (v := ?_) rfl rfl (by kernel_rfl) (by kernel_rfl) (by kernel_rfl) (fun _ _ _ h => h) (Or.inl ⟨by rfl, ?_⟩) (by assumption) ?_)
  rotate_left
  focus
    intro wq hSw
    (try dsimp only at hSw)
    go_simp
    all_goals (with_reducible rfl)
  simp only [Act.put, List.setIfInBounds_toArray, List.set_cons_zero, List.set_cons_succ]
  (refine wpAnyH_take' (i := 4) (d := some 12) (v := ?_) rfl rfl (by kernel_rfl) (by kernel_rfl) (by kernel_rfl) (fun _ _ _ h => h) (Or.inl ⟨by rfl, ?_⟩) (by assumption) ?_)
  rotate_left
  focus
    intro wq hSw
    (try dsimp only at hSw)
    go_simp
    all_goals (with_reducible rfl)
  simp only [Act.put, List.setIfInBounds_toArray, List.set_cons_zero, List.set_cons_succ]
  refine wpAnyH_ready (rs := [5, 11]) (by kernel_rfl) (by simp) ?_
  refine AllReadyH.cons (o := _) rfl (fun K hK => ?_) (AllReadyH.cons (o := _) rfl (fun K hK => ?_) AllReadyH.nil)
  · skip
    go_simp
    (go_at_call 113; refine (committee_Leads _ _ _ h1 h2 h3 h4).mono ?_; rintro e w' ⟨rfl, rfl⟩)
    refine hK.out _ _ ⟨k0, k1, k2⟩ (fun hHeld => ?_)
    clear hK K
    try simp only [Act.put, List.setIfInBounds_toArray, List.set_cons_zero, List.set_cons_succ]
    refine wpAnyH_ready (rs := [6, 11]) (by kernel_rfl) (by simp) ?_
    refine AllReadyH.cons (o := _) rfl (fun K hK => ?_) (AllReadyH.cons (o := _) rfl (fun K hK => ?_) AllReadyH.nil)
    · skip
      go_simp
      (go_at_call 112; refine (place_Of _ _ _).mono ?_; rintro e w' ⟨rfl, rfl⟩)
      refine hK.out _ _ ⟨k0, k1, k2⟩ (fun hHeld => ?_)
      clear hK K
      try simp only [Act.put, List.setIfInBounds_toArray, List.set_cons_zero, List.set_cons_succ]
      refine wpAnyH_ready (rs := [7, 11]) (by kernel_rfl) (by simp) ?_
      refine AllReadyH.cons (o := _) rfl (fun K hK => ?_) (AllReadyH.cons (o := _) rfl (fun K hK => ?_) AllReadyH.nil)
      · skip
        go_simp
        go_at_call 99
        refine (dag_There_none _ _ _ D.certs _ _ _ _ _ (HL.out.up hbw) HP.out hn HS1.out HS2.out EA.out).mono ?_
        rintro e w1 ⟨rfl, hb1⟩
        have k0 := (hb1.cell (p := ⟨w.heap.size, 0, none⟩) hsz).trans k0
        have k1 := (hb1.cell (p := ⟨w.heap.size, 1, none⟩) hsz).trans k1
        have k2 := (hb1.cell (p := ⟨w.heap.size, 2, none⟩) hsz).trans k2
        have hbw := bel_trans hbw hb1
        have hsz := Nat.lt_of_lt_of_le hsz hb1.size
        refine hK.out _ _ ⟨k0, k1, k2⟩ (fun hHeld => ?_)
        clear hK K
        try simp only [Act.put, List.setIfInBounds_toArray, List.set_cons_zero, List.set_cons_succ]
        (refine wpAnyH_take' (i := 8) (d := some 7) (v := ?_) rfl rfl (by kernel_rfl) (by kernel_rfl) (by kernel_rfl) (fun _ _ _ h => h) (Or.inl ⟨by rfl, ?_⟩) (by assumption) ?_)
        rotate_left
        focus
          intro wq hSw
          (try dsimp only at hSw)
          go_simp
          all_goals (with_reducible rfl)
        simp only [Act.put, List.setIfInBounds_toArray, List.set_cons_zero, List.set_cons_succ]
        (refine wpAnyH_take' (i := 9) (d := some 16) (v := ?_) rfl rfl (by kernel_rfl) (by kernel_rfl) (by kernel_rfl) (fun _ _ _ h => h) (Or.inl ⟨by rfl, ?_⟩) (by assumption) ?_)
        rotate_left
        focus
          intro wq hSw
          (try dsimp only at hSw)
          go_simp
          all_goals (with_reducible rfl)
        simp only [Act.put, List.setIfInBounds_toArray, List.set_cons_zero, List.set_cons_succ]
        (refine wpAnyH_take' (i := 10) (d := some 17) (v := ?_) rfl rfl (by kernel_rfl) (by kernel_rfl) (by kernel_rfl) (fun _ _ _ h => h) (Or.inl ⟨by rfl, ?_⟩) (by assumption) ?_)
        rotate_left
        focus
          intro wq hSw
          (try dsimp only at hSw)
          go_simp
          all_goals (with_reducible rfl)
        simp only [Act.put, List.setIfInBounds_toArray, List.set_cons_zero, List.set_cons_succ]
        refine wpAnyH_ready (rs := [11]) (by kernel_rfl) (by simp) ?_
        refine AllReadyH.cons (o := _) rfl (fun K hK => ?_) AllReadyH.nil
        go_simp
        have hba : Below w1.heap.size w1 (w1.alloc (.cells #[.int .i64 0, .int .i64 0, .slice none 0 0, .slice none 0 0, .int .i64 0, .slice none 0 0] 48)) := bel_alloc (Below.refl _ _)
        have j0 := k0
        have j1 := k1
        have j2 := k2
        have k0 := (hba.cell (p := ⟨w.heap.size, 0, none⟩) hsz).trans k0
        have k1 := (hba.cell (p := ⟨w.heap.size, 1, none⟩) hsz).trans k1
        have k2 := (hba.cell (p := ⟨w.heap.size, 2, none⟩) hsz).trans k2
        have hbw := bel_trans hbw hba
        have hsz0 := hsz
        have hsz := Nat.lt_of_lt_of_le hsz hba.size
        refine hK.out _ _ ⟨k0, k1, k2⟩ (fun hHeld => ?_)
        clear hK K
        try simp only [Act.put, List.setIfInBounds_toArray, List.set_cons_zero, List.set_cons_succ]
        refine wpAnyH_ready (rs := [12]) (by kernel_rfl) (by simp) ?_
        refine AllReadyH.cons (o := _) rfl (fun K hK => ?_) AllReadyH.nil
        go_simp
        refine hK.out _ _ (keep3 hsz0 j0 j1 j2 (by (repeat (first | (with_reducible exact Below.refl _ _) | (with_reducible assumption) | (with_reducible apply bel_alloc) | (with_reducible apply bel_drew) | (with_reducible apply bel_drewN) | (with_reducible refine bel_trans ?_ (by with_reducible assumption)) | (with_reducible refine bel_trans ?_ (HF.out _)) | ((with_reducible refine bel_set3 ?_ ?_); rotate_left; omega))))) (fun hHeld => ?_)
        clear hK K
        try simp only [Act.put, List.setIfInBounds_toArray, List.set_cons_zero, List.set_cons_succ]
        (refine wpAnyH_take' (i := 13) (d := some 6) (v := ?_) rfl rfl (by kernel_rfl) (by kernel_rfl) (by kernel_rfl) (fun _ _ _ h => h) (Or.inl ⟨by rfl, ?_⟩) (by assumption) ?_)
        rotate_left
        focus
          intro wq hSw
          (try dsimp only at hSw)
          go_simp
          all_goals (with_reducible rfl)
        simp only [Act.put, List.setIfInBounds_toArray, List.set_cons_zero, List.set_cons_succ]
        refine wpAnyH_done (by kernel_rfl) ?_ _
        go_wp2_with fail
        go_ret
        exact ⟨ret_int HQ.out.symm, by (repeat (first | (with_reducible exact Below.refl _ _) | (with_reducible assumption) | (with_reducible apply bel_alloc) | (with_reducible apply bel_drew) | (with_reducible apply bel_drewN) | (with_reducible refine bel_trans ?_ (by with_reducible assumption)) | (with_reducible refine bel_trans ?_ (HF.out _)) | ((with_reducible refine bel_set3 ?_ ?_); rotate_left; omega)))⟩
      · skip
        go_simp
        have hba : Below (w.alloc (.cells #[.int .i64 D.nodes, .int .i64 D.low, .slice A n c] 24)).drew.heap.size (w.alloc (.cells #[.int .i64 D.nodes, .int .i64 D.low, .slice A n c] 24)).drew ((w.alloc (.cells #[.int .i64 D.nodes, .int .i64 D.low, .slice A n c] 24)).drew.alloc (.cells #[.int .i64 0, .int .i64 0, .slice none 0 0, .slice none 0 0, .int .i64 0, .slice none 0 0] 48)) := bel_alloc (Below.refl _ _)
        have j0 := k0
        have j1 := k1
        have j2 := k2
        have k0 := (hba.cell (p := ⟨w.heap.size, 0, none⟩) hsz).trans k0
        have k1 := (hba.cell (p := ⟨w.heap.size, 1, none⟩) hsz).trans k1
        have k2 := (hba.cell (p := ⟨w.heap.size, 2, none⟩) hsz).trans k2
        have hbw := bel_trans hbw hba
        have hsz0 := hsz
        have hsz := Nat.lt_of_lt_of_le hsz hba.size
        refine hK.out _ _ ⟨k0, k1, k2⟩ (fun hHeld => ?_)
        clear hK K
        try simp only [Act.put, List.setIfInBounds_toArray, List.set_cons_zero, List.set_cons_succ]
        refine wpAnyH_ready (rs := [7]) (by kernel_rfl) (by simp) ?_
        refine AllReadyH.cons (o := _) rfl (fun K hK => ?_) AllReadyH.nil
        go_simp
        go_at_call 99
        refine (dag_There_none _ _ _ D.certs _ _ _ _ _ (HL.out.up hbw) HP.out hn HS1.out HS2.out EA.out).mono ?_
        rintro e w1 ⟨rfl, hb1⟩
        have hcx := fun o => (bcell hb1).1 (w.heap.size + 1) o (by simp)
        have hfx := fun o => (bcell hb1).2 (w.heap.size + 1) o (by simp)
        have k0 := (hb1.cell (p := ⟨w.heap.size, 0, none⟩) hsz).trans k0
        have k1 := (hb1.cell (p := ⟨w.heap.size, 1, none⟩) hsz).trans k1
        have k2 := (hb1.cell (p := ⟨w.heap.size, 2, none⟩) hsz).trans k2
        have hbw := bel_trans hbw hb1
        have hsz := Nat.lt_of_lt_of_le hsz hb1.size
        refine hK.out _ _ ⟨k0, k1, k2⟩ (fun hHeld => ?_)
        clear hK K
        try simp only [Act.put, List.setIfInBounds_toArray, List.set_cons_zero, List.set_cons_succ]
        (refine wpAnyH_take' (i := 8) (d := some 7) (v := ?_) rfl rfl (by kernel_rfl) (by kernel_rfl) (by kernel_rfl) (fun _ _ _ h => h) (Or.inl ⟨by rfl, ?_⟩) (by assumption) ?_)
        rotate_left
        focus
          intro wq hSw
          (try dsimp only at hSw)
          go_simp
          all_goals (with_reducible rfl)
        simp only [Act.put, List.setIfInBounds_toArray, List.set_cons_zero, List.set_cons_succ]
        (refine wpAnyH_take' (i := 9) (d := some 16) (v := ?_) rfl rfl (by kernel_rfl) (by kernel_rfl) (by kernel_rfl) (fun _ _ _ h => h) (Or.inl ⟨by rfl, ?_⟩) (by assumption) ?_)
        rotate_left
        focus
          intro wq hSw
          (try dsimp only at hSw)
          go_simp
          all_goals (with_reducible rfl)
        simp only [Act.put, List.setIfInBounds_toArray, List.set_cons_zero, List.set_cons_succ]
        (refine wpAnyH_take' (i := 10) (d := some 17) (v := ?_) rfl rfl (by kernel_rfl) (by kernel_rfl) (by kernel_rfl) (fun _ _ _ h => h) (Or.inl ⟨by rfl, ?_⟩) (by assumption) ?_)
        rotate_left
        focus
          intro wq hSw
          (try dsimp only at hSw)
          go_simp
          all_goals (with_reducible rfl)
        simp only [Act.put, List.setIfInBounds_toArray, List.set_cons_zero, List.set_cons_succ]
        refine wpAnyH_ready (rs := [12]) (by kernel_rfl) (by simp) ?_
        refine AllReadyH.cons (o := _) rfl (fun K hK => ?_) AllReadyH.nil
        go_simp
        refine hK.out _ _ (keep4 (B := w.heap.size + 1) (w1 := w1) (by omega) k0 k1 k2 (by repeat (first | (with_reducible exact Below.refl _ _) | ((with_reducible refine bel_setB ?_ ?_); rotate_left; omega)))) (fun hHeld => ?_)
        clear hK K
        try simp only [Act.put, List.setIfInBounds_toArray, List.set_cons_zero, List.set_cons_succ]
        (refine wpAnyH_take' (i := 13) (d := some 6) (v := ?_) rfl rfl (by kernel_rfl) (by kernel_rfl) (by kernel_rfl) (fun _ _ _ h => h) (Or.inl ⟨by rfl, ?_⟩) (by assumption) ?_)
        rotate_left
        focus
          intro wq hSw
          (try dsimp only at hSw)
          go_simp
          all_goals (with_reducible rfl)
        simp only [Act.put, List.setIfInBounds_toArray, List.set_cons_zero, List.set_cons_succ]
        refine wpAnyH_done (by kernel_rfl) ?_ _
        go_wp2_with fail
        go_ret
        exact ⟨ret_int HQ.out.symm, by (repeat (first | (with_reducible exact Below.refl _ _) | (with_reducible assumption) | (with_reducible apply bel_alloc) | (with_reducible apply bel_drew) | (with_reducible apply bel_drewN) | (with_reducible refine bel_trans ?_ (by with_reducible assumption)) | (with_reducible refine bel_trans ?_ (HF.out _)) | ((with_reducible refine bel_set3 ?_ ?_); rotate_left; omega)))⟩
    · skip
      go_simp
      have hba : Below (w.alloc (.cells #[.int .i64 D.nodes, .int .i64 D.low, .slice A n c] 24)).drew.heap.size (w.alloc (.cells #[.int .i64 D.nodes, .int .i64 D.low, .slice A n c] 24)).drew ((w.alloc (.cells #[.int .i64 D.nodes, .int .i64 D.low, .slice A n c] 24)).drew.alloc (.cells #[.int .i64 0, .int .i64 0, .slice none 0 0, .slice none 0 0, .int .i64 0, .slice none 0 0] 48)) := bel_alloc (Below.refl _ _)
      have j0 := k0
      have j1 := k1
      have j2 := k2
      have k0 := (hba.cell (p := ⟨w.heap.size, 0, none⟩) hsz).trans k0
      have k1 := (hba.cell (p := ⟨w.heap.size, 1, none⟩) hsz).trans k1
      have k2 := (hba.cell (p := ⟨w.heap.size, 2, none⟩) hsz).trans k2
      have hbw := bel_trans hbw hba
      have hsz0 := hsz
      have hsz := Nat.lt_of_lt_of_le hsz hba.size
      refine hK.out _ _ ⟨k0, k1, k2⟩ (fun hHeld => ?_)
      clear hK K
      try simp only [Act.put, List.setIfInBounds_toArray, List.set_cons_zero, List.set_cons_succ]
      refine wpAnyH_ready (rs := [6]) (by kernel_rfl) (by simp) ?_
      refine AllReadyH.cons (o := _) rfl (fun K hK => ?_) AllReadyH.nil
      go_simp
      (go_at_call 112; refine (place_Of _ _ _).mono ?_; rintro e w' ⟨rfl, rfl⟩)
      refine hK.out _ _ ⟨k0, k1, k2⟩ (fun hHeld => ?_)
      clear hK K
      try simp only [Act.put, List.setIfInBounds_toArray, List.set_cons_zero, List.set_cons_succ]
      refine wpAnyH_ready (rs := [7]) (by kernel_rfl) (by simp) ?_
      refine AllReadyH.cons (o := _) rfl (fun K hK => ?_) AllReadyH.nil
      go_simp
      go_at_call 99
      refine (dag_There_none _ _ _ D.certs _ _ _ _ _ (HL.out.up hbw) HP.out hn HS1.out HS2.out EA.out).mono ?_
      rintro e w1 ⟨rfl, hb1⟩
      have hcx := fun o => (bcell hb1).1 (w.heap.size + 1) o (by simp)
      have hfx := fun o => (bcell hb1).2 (w.heap.size + 1) o (by simp)
      have k0 := (hb1.cell (p := ⟨w.heap.size, 0, none⟩) hsz).trans k0
      have k1 := (hb1.cell (p := ⟨w.heap.size, 1, none⟩) hsz).trans k1
      have k2 := (hb1.cell (p := ⟨w.heap.size, 2, none⟩) hsz).trans k2
      have hbw := bel_trans hbw hb1
      have hsz := Nat.lt_of_lt_of_le hsz hb1.size
      refine hK.out _ _ ⟨k0, k1, k2⟩ (fun hHeld => ?_)
      clear hK K
      try simp only [Act.put, List.setIfInBounds_toArray, List.set_cons_zero, List.set_cons_succ]
      (refine wpAnyH_take' (i := 8) (d := some 7) (v := ?_) rfl rfl (by kernel_rfl) (by kernel_rfl) (by kernel_rfl) (fun _ _ _ h => h) (Or.inl ⟨by rfl, ?_⟩) (by assumption) ?_)
      rotate_left
      focus
        intro wq hSw
        (try dsimp only at hSw)
        go_simp
        all_goals (with_reducible rfl)
      simp only [Act.put, List.setIfInBounds_toArray, List.set_cons_zero, List.set_cons_succ]
      (refine wpAnyH_take' (i := 9) (d := some 16) (v := ?_) rfl rfl (by kernel_rfl) (by kernel_rfl) (by kernel_rfl) (fun _ _ _ h => h) (Or.inl ⟨by rfl, ?_⟩) (by assumption) ?_)
      rotate_left
      focus
        intro wq hSw
        (try dsimp only at hSw)
        go_simp
        all_goals (with_reducible rfl)
      simp only [Act.put, List.setIfInBounds_toArray, List.set_cons_zero, List.set_cons_succ]
      (refine wpAnyH_take' (i := 10) (d := some 17) (v := ?_) rfl rfl (by kernel_rfl) (by kernel_rfl) (by kernel_rfl) (fun _ _ _ h => h) (Or.inl ⟨by rfl, ?_⟩) (by assumption) ?_)
      rotate_left
      focus
        intro wq hSw
        (try dsimp only at hSw)
        go_simp
        all_goals (with_reducible rfl)
      simp only [Act.put, List.setIfInBounds_toArray, List.set_cons_zero, List.set_cons_succ]
      refine wpAnyH_ready (rs := [12]) (by kernel_rfl) (by simp) ?_
      refine AllReadyH.cons (o := _) rfl (fun K hK => ?_) AllReadyH.nil
      go_simp
      refine hK.out _ _ (keep4 (B := w.heap.size + 1) (w1 := w1) (by omega) k0 k1 k2 (by repeat (first | (with_reducible exact Below.refl _ _) | ((with_reducible refine bel_setB ?_ ?_); rotate_left; omega)))) (fun hHeld => ?_)
      clear hK K
      try simp only [Act.put, List.setIfInBounds_toArray, List.set_cons_zero, List.set_cons_succ]
      (refine wpAnyH_take' (i := 13) (d := some 6) (v := ?_) rfl rfl (by kernel_rfl) (by kernel_rfl) (by kernel_rfl) (fun _ _ _ h => h) (Or.inl ⟨by rfl, ?_⟩) (by assumption) ?_)
      rotate_left
      focus
        intro wq hSw
        (try dsimp only at hSw)
        go_simp
        all_goals (with_reducible rfl)
      simp only [Act.put, List.setIfInBounds_toArray, List.set_cons_zero, List.set_cons_succ]
      refine wpAnyH_done (by kernel_rfl) ?_ _
      go_wp2_with fail
      go_ret
      exact ⟨ret_int HQ.out.symm, by (repeat (first | (with_reducible exact Below.refl _ _) | (with_reducible assumption) | (with_reducible apply bel_alloc) | (with_reducible apply bel_drew) | (with_reducible apply bel_drewN) | (with_reducible refine bel_trans ?_ (by with_reducible assumption)) | (with_reducible refine bel_trans ?_ (HF.out _)) | ((with_reducible refine bel_set3 ?_ ?_); rotate_left; omega)))⟩
  · skip
    go_simp
    have hba : Below (w.alloc (.cells #[.int .i64 D.nodes, .int .i64 D.low, .slice A n c] 24)).drew.heap.size (w.alloc (.cells #[.int .i64 D.nodes, .int .i64 D.low, .slice A n c] 24)).drew ((w.alloc (.cells #[.int .i64 D.nodes, .int .i64 D.low, .slice A n c] 24)).drew.alloc (.cells #[.int .i64 0, .int .i64 0, .slice none 0 0, .slice none 0 0, .int .i64 0, .slice none 0 0] 48)) := bel_alloc (Below.refl _ _)
    have j0 := k0
    have j1 := k1
    have j2 := k2
    have k0 := (hba.cell (p := ⟨w.heap.size, 0, none⟩) hsz).trans k0
    have k1 := (hba.cell (p := ⟨w.heap.size, 1, none⟩) hsz).trans k1
    have k2 := (hba.cell (p := ⟨w.heap.size, 2, none⟩) hsz).trans k2
    have hbw := bel_trans hbw hba
    have hsz0 := hsz
    have hsz := Nat.lt_of_lt_of_le hsz hba.size
    refine hK.out _ _ ⟨k0, k1, k2⟩ (fun hHeld => ?_)
    clear hK K
    try simp only [Act.put, List.setIfInBounds_toArray, List.set_cons_zero, List.set_cons_succ]
    refine wpAnyH_ready (rs := [5]) (by kernel_rfl) (by simp) ?_
    refine AllReadyH.cons (o := _) rfl (fun K hK => ?_) AllReadyH.nil
    go_simp
    (go_at_call 113; refine (committee_Leads _ _ _ h1 h2 h3 h4).mono ?_; rintro e w' ⟨rfl, rfl⟩)
    refine hK.out _ _ ⟨k0, k1, k2⟩ (fun hHeld => ?_)
    clear hK K
    try simp only [Act.put, List.setIfInBounds_toArray, List.set_cons_zero, List.set_cons_succ]
    refine wpAnyH_ready (rs := [6]) (by kernel_rfl) (by simp) ?_
    refine AllReadyH.cons (o := _) rfl (fun K hK => ?_) AllReadyH.nil
    go_simp
    (go_at_call 112; refine (place_Of _ _ _).mono ?_; rintro e w' ⟨rfl, rfl⟩)
    refine hK.out _ _ ⟨k0, k1, k2⟩ (fun hHeld => ?_)
    clear hK K
    try simp only [Act.put, List.setIfInBounds_toArray, List.set_cons_zero, List.set_cons_succ]
    refine wpAnyH_ready (rs := [7]) (by kernel_rfl) (by simp) ?_
    refine AllReadyH.cons (o := _) rfl (fun K hK => ?_) AllReadyH.nil
    go_simp
    go_at_call 99
    refine (dag_There_none _ _ _ D.certs _ _ _ _ _ (HL.out.up hbw) HP.out hn HS1.out HS2.out EA.out).mono ?_
    rintro e w1 ⟨rfl, hb1⟩
    have hcx := fun o => (bcell hb1).1 (w.heap.size + 1) o (by simp)
    have hfx := fun o => (bcell hb1).2 (w.heap.size + 1) o (by simp)
    have k0 := (hb1.cell (p := ⟨w.heap.size, 0, none⟩) hsz).trans k0
    have k1 := (hb1.cell (p := ⟨w.heap.size, 1, none⟩) hsz).trans k1
    have k2 := (hb1.cell (p := ⟨w.heap.size, 2, none⟩) hsz).trans k2
    have hbw := bel_trans hbw hb1
    have hsz := Nat.lt_of_lt_of_le hsz hb1.size
    refine hK.out _ _ ⟨k0, k1, k2⟩ (fun hHeld => ?_)
    clear hK K
    try simp only [Act.put, List.setIfInBounds_toArray, List.set_cons_zero, List.set_cons_succ]
    (refine wpAnyH_take' (i := 8) (d := some 7) (v := ?_) rfl rfl (by kernel_rfl) (by kernel_rfl) (by kernel_rfl) (fun _ _ _ h => h) (Or.inl ⟨by rfl, ?_⟩) (by assumption) ?_)
    rotate_left
    focus
      intro wq hSw
      (try dsimp only at hSw)
      go_simp
      all_goals (with_reducible rfl)
    simp only [Act.put, List.setIfInBounds_toArray, List.set_cons_zero, List.set_cons_succ]
    (refine wpAnyH_take' (i := 9) (d := some 16) (v := ?_) rfl rfl (by kernel_rfl) (by kernel_rfl) (by kernel_rfl) (fun _ _ _ h => h) (Or.inl ⟨by rfl, ?_⟩) (by assumption) ?_)
    rotate_left
    focus
      intro wq hSw
      (try dsimp only at hSw)
      go_simp
      all_goals (with_reducible rfl)
    simp only [Act.put, List.setIfInBounds_toArray, List.set_cons_zero, List.set_cons_succ]
    (refine wpAnyH_take' (i := 10) (d := some 17) (v := ?_) rfl rfl (by kernel_rfl) (by kernel_rfl) (by kernel_rfl) (fun _ _ _ h => h) (Or.inl ⟨by rfl, ?_⟩) (by assumption) ?_)
    rotate_left
    focus
      intro wq hSw
      (try dsimp only at hSw)
      go_simp
      all_goals (with_reducible rfl)
    simp only [Act.put, List.setIfInBounds_toArray, List.set_cons_zero, List.set_cons_succ]
    refine wpAnyH_ready (rs := [12]) (by kernel_rfl) (by simp) ?_
    refine AllReadyH.cons (o := _) rfl (fun K hK => ?_) AllReadyH.nil
    go_simp
    refine hK.out _ _ (keep4 (B := w.heap.size + 1) (w1 := w1) (by omega) k0 k1 k2 (by repeat (first | (with_reducible exact Below.refl _ _) | ((with_reducible refine bel_setB ?_ ?_); rotate_left; omega)))) (fun hHeld => ?_)
    clear hK K
    try simp only [Act.put, List.setIfInBounds_toArray, List.set_cons_zero, List.set_cons_succ]
    (refine wpAnyH_take' (i := 13) (d := some 6) (v := ?_) rfl rfl (by kernel_rfl) (by kernel_rfl) (by kernel_rfl) (fun _ _ _ h => h) (Or.inl ⟨by rfl, ?_⟩) (by assumption) ?_)
    rotate_left
    focus
      intro wq hSw
      (try dsimp only at hSw)
      go_simp
      all_goals (with_reducible rfl)
    simp only [Act.put, List.setIfInBounds_toArray, List.set_cons_zero, List.set_cons_succ]
    refine wpAnyH_done (by kernel_rfl) ?_ _
    go_wp2_with fail
    go_ret
    exact ⟨ret_int HQ.out.symm, by (repeat (first | (with_reducible exact Below.refl _ _) | (with_reducible assumption) | (with_reducible apply bel_alloc) | (with_reducible apply bel_drew) | (with_reducible apply bel_drewN) | (with_reducible refine bel_trans ?_ (by with_reducible assumption)) | (with_reducible refine bel_trans ?_ (HF.out _)) | ((with_reducible refine bel_set3 ?_ ?_); rotate_left; omega)))⟩
set_option maxRecDepth 100000 in
set_option maxHeartbeats 2000000 in
theorem anchor_Of_some (A : Option Addr) (n c : Nat) (D : DagD) (r : Int) (i : Nat) (w : World) (hl : CertsR w A n D.certs) (hP : Places D.certs) (hn : n ≤ 1000000000) (h1 : 1 ≤ D.nodes) (h2 : D.nodes ≤ 16) (h3 : 2 ≤ r) (h4 : r ≤ 1099511627776) (ea : atS D.certs r (leadS D.nodes r) = (i : Int)) :
    Calls Try.prog 78 #[.agg #[.int .i64 D.nodes, .int .i64 D.low, .slice A n c], .int .i64 r] w fun e w' => e = .returned (.int .i64 (anchS D r)) ∧ Below w.heap.size w w' := by
  have HL := Lib.hid hl
  have HP := Lib.hid hP
  have hlb := leadS_bd (n := D.nodes) (r := r) h1
  have hs1 : Sm r := ⟨by omega, by omega⟩
  have hs2 : Sm (leadS D.nodes r) := ⟨by omega, by omega⟩
  have HS1 := Lib.hid hs1
  have HS2 := Lib.hid hs2
  have hq := anch_some ea
  have EA := Lib.hid ea
  have HQ := Lib.hid hq
  clear hl hP hlb ea hq hs1 hs2
  go_enter Try.func78, Try.ntmps78
  go_wp2_with fail
  have k0 : (w.alloc (.cells #[.int .i64 D.nodes, .int .i64 D.low, .slice A n c] 24)).drew.cell? ⟨w.heap.size, 0, none⟩ = some (.int .i64 D.nodes) := by simp
  have k1 : (w.alloc (.cells #[.int .i64 D.nodes, .int .i64 D.low, .slice A n c] 24)).drew.cell? ⟨w.heap.size, 1, none⟩ = some (.int .i64 D.low) := by simp
  have k2 : (w.alloc (.cells #[.int .i64 D.nodes, .int .i64 D.low, .slice A n c] 24)).drew.cell? ⟨w.heap.size, 2, none⟩ = some (.slice A n c) := by simp
  have hbw : Below w.heap.size w (w.alloc (.cells #[.int .i64 D.nodes, .int .i64 D.low, .slice A n c] 24)).drew := bel_drew (bel_alloc (Below.refl _ _))
  have hsz : w.heap.size < (w.alloc (.cells #[.int .i64 D.nodes, .int .i64 D.low, .slice A n c] 24)).drew.heap.size := by simp
  refine wp_region_held_drew (S := fun w' => w'.cell? ⟨w.heap.size, 0, none⟩ = some (.int .i64 D.nodes) ∧ w'.cell? ⟨w.heap.size, 1, none⟩ = some (.int .i64 D.low) ∧ w'.cell? ⟨w.heap.size, 2, none⟩ = some (.slice A n c)) (by kernel_rfl) ⟨k0, k1, k2⟩ (fun hHeld => ?_)
  (refine wpAnyH_take' (i := 0) (d := some 8) (v := ?_) rfl rfl (by kernel_rfl) (by kernel_rfl) (by kernel_rfl) (fun _ _ _ h => h) (Or.inl ⟨by rfl, ?_⟩) (by assumption) ?_)
  rotate_left
  focus
    intro wq hSw
    (try dsimp only at hSw)
    go_simp
    all_goals (with_reducible rfl)
  simp only [Act.put, List.setIfInBounds_toArray, List.set_cons_zero, List.set_cons_succ]
  (refine wpAnyH_take' (i := 1) (d := some 9) (v := ?_) rfl rfl (by kernel_rfl) (by kernel_rfl) (by kernel_rfl) (fun _ _ _ h => h) (Or.inl ⟨by rfl, ?_⟩) (by assumption) ?_)
  rotate_left
  focus
    intro wq hSw
    (try dsimp only at hSw)
    go_simp
    all_goals (with_reducible rfl)
  simp only [Act.put, List.setIfInBounds_toArray, List.set_cons_zero, List.set_cons_succ]
  (refine wpAnyH_take' (i := 2) (d := some 10) (v := ?_) rfl rfl (by kernel_rfl) (by kernel_rfl) (by kernel_rfl) (fun _ _ _ h => h) (Or.inl ⟨by rfl, ?_⟩) (by assumption) ?_)
  rotate_left
  focus
    intro wq hSw
    (try dsimp only at hSw)
    go_simp
    all_goals (with_reducible rfl)
  simp only [Act.put, List.setIfInBounds_toArray, List.set_cons_zero, List.set_cons_succ]
  (refine wpAnyH_take' (i := 3) (d := some 11) (v := ?_) rfl rfl (by kernel_rfl) (by kernel_rfl) (by kernel_rfl) (fun _ _ _ h => h) (Or.inl ⟨by rfl, ?_⟩) (by assumption) ?_)
  rotate_left
  focus
    intro wq hSw
    (try dsimp only at hSw)
    go_simp
    all_goals (with_reducible rfl)
  simp only [Act.put, List.setIfInBounds_toArray, List.set_cons_zero, List.set_cons_succ]
  (refine wpAnyH_take' (i := 4) (d := some 12) (v := ?_) rfl rfl (by kernel_rfl) (by kernel_rfl) (by kernel_rfl) (fun _ _ _ h => h) (Or.inl ⟨by rfl, ?_⟩) (by assumption) ?_)
  rotate_left
  focus
    intro wq hSw
    (try dsimp only at hSw)
    go_simp
    all_goals (with_reducible rfl)
  simp only [Act.put, List.setIfInBounds_toArray, List.set_cons_zero, List.set_cons_succ]
  refine wpAnyH_ready (rs := [5, 11]) (by kernel_rfl) (by simp) ?_
  refine AllReadyH.cons (o := _) rfl (fun K hK => ?_) (AllReadyH.cons (o := _) rfl (fun K hK => ?_) AllReadyH.nil)
  · skip
    go_simp
    (go_at_call 113; refine (committee_Leads _ _ _ h1 h2 h3 h4).mono ?_; rintro e w' ⟨rfl, rfl⟩)
    refine hK.out _ _ ⟨k0, k1, k2⟩ (fun hHeld => ?_)
    clear hK K
    try simp only [Act.put, List.setIfInBounds_toArray, List.set_cons_zero, List.set_cons_succ]
    refine wpAnyH_ready (rs := [6, 11]) (by kernel_rfl) (by simp) ?_
    refine AllReadyH.cons (o := _) rfl (fun K hK => ?_) (AllReadyH.cons (o := _) rfl (fun K hK => ?_) AllReadyH.nil)
    · skip
      go_simp
      (go_at_call 112; refine (place_Of _ _ _).mono ?_; rintro e w' ⟨rfl, rfl⟩)
      refine hK.out _ _ ⟨k0, k1, k2⟩ (fun hHeld => ?_)
      clear hK K
      try simp only [Act.put, List.setIfInBounds_toArray, List.set_cons_zero, List.set_cons_succ]
      refine wpAnyH_ready (rs := [7, 11]) (by kernel_rfl) (by simp) ?_
      refine AllReadyH.cons (o := _) rfl (fun K hK => ?_) (AllReadyH.cons (o := _) rfl (fun K hK => ?_) AllReadyH.nil)
      · skip
        go_simp
        go_at_call 99
        refine (dag_There_some _ _ _ D.certs _ _ _ _ i _ (HL.out.up hbw) HP.out hn HS1.out HS2.out EA.out).mono ?_
        rintro e w1 ⟨p, rfl, hcp, hb1⟩
        have k0 := (hb1.cell (p := ⟨w.heap.size, 0, none⟩) hsz).trans k0
        have k1 := (hb1.cell (p := ⟨w.heap.size, 1, none⟩) hsz).trans k1
        have k2 := (hb1.cell (p := ⟨w.heap.size, 2, none⟩) hsz).trans k2
        have hbw := bel_trans hbw hb1
        have hsz := Nat.lt_of_lt_of_le hsz hb1.size
        refine hK.out _ _ ⟨k0, k1, k2⟩ (fun hHeld => ?_)
        clear hK K
        try simp only [Act.put, List.setIfInBounds_toArray, List.set_cons_zero, List.set_cons_succ]
        (refine wpAnyH_take' (i := 8) (d := some 7) (v := ?_) rfl rfl (by kernel_rfl) (by kernel_rfl) (by kernel_rfl) (fun _ _ _ h => h) (Or.inl ⟨by rfl, ?_⟩) (by assumption) ?_)
        rotate_left
        focus
          intro wq hSw
          (try dsimp only at hSw)
          go_simp
          all_goals (with_reducible rfl)
        simp only [Act.put, List.setIfInBounds_toArray, List.set_cons_zero, List.set_cons_succ]
        (refine wpAnyH_take' (i := 9) (d := some 16) (v := ?_) rfl rfl (by kernel_rfl) (by kernel_rfl) (by kernel_rfl) (fun _ _ _ h => h) (Or.inl ⟨by rfl, ?_⟩) (by assumption) ?_)
        rotate_left
        focus
          intro wq hSw
          (try dsimp only at hSw)
          go_simp
          all_goals (with_reducible rfl)
        simp only [Act.put, List.setIfInBounds_toArray, List.set_cons_zero, List.set_cons_succ]
        (refine wpAnyH_take' (i := 10) (d := some 17) (v := ?_) rfl rfl (by kernel_rfl) (by kernel_rfl) (by kernel_rfl) (fun _ _ _ h => h) (Or.inl ⟨by rfl, ?_⟩) (by assumption) ?_)
        rotate_left
        focus
          intro wq hSw
          (try dsimp only at hSw)
          go_simp
          all_goals (with_reducible rfl)
        simp only [Act.put, List.setIfInBounds_toArray, List.set_cons_zero, List.set_cons_succ]
        refine wpAnyH_ready (rs := [11]) (by kernel_rfl) (by simp) ?_
        refine AllReadyH.cons (o := _) rfl (fun K hK => ?_) AllReadyH.nil
        go_simp
        have hba : Below w1.heap.size w1 (w1.alloc (.cells #[.int .i64 0, .int .i64 0, .slice none 0 0, .slice none 0 0, .int .i64 0, .slice none 0 0] 48)) := bel_alloc (Below.refl _ _)
        have j0 := k0
        have j1 := k1
        have j2 := k2
        have k0 := (hba.cell (p := ⟨w.heap.size, 0, none⟩) hsz).trans k0
        have k1 := (hba.cell (p := ⟨w.heap.size, 1, none⟩) hsz).trans k1
        have k2 := (hba.cell (p := ⟨w.heap.size, 2, none⟩) hsz).trans k2
        have hbw := bel_trans hbw hba
        have hsz0 := hsz
        have hsz := Nat.lt_of_lt_of_le hsz hba.size
        refine hK.out _ _ ⟨k0, k1, k2⟩ (fun hHeld => ?_)
        clear hK K
        try simp only [Act.put, List.setIfInBounds_toArray, List.set_cons_zero, List.set_cons_succ]
        refine wpAnyH_ready (rs := [12]) (by kernel_rfl) (by simp) ?_
        refine AllReadyH.cons (o := _) rfl (fun K hK => ?_) AllReadyH.nil
        go_simp
        refine hK.out _ _ (keep3 hsz0 j0 j1 j2 (by (repeat (first | (with_reducible exact Below.refl _ _) | (with_reducible assumption) | (with_reducible apply bel_alloc) | (with_reducible apply bel_drew) | (with_reducible apply bel_drewN) | (with_reducible refine bel_trans ?_ (by with_reducible assumption)) | (with_reducible refine bel_trans ?_ (HF.out _)) | ((with_reducible refine bel_set3 ?_ ?_); rotate_left; omega))))) (fun hHeld => ?_)
        clear hK K
        try simp only [Act.put, List.setIfInBounds_toArray, List.set_cons_zero, List.set_cons_succ]
        (refine wpAnyH_take' (i := 13) (d := some 6) (v := ?_) rfl rfl (by kernel_rfl) (by kernel_rfl) (by kernel_rfl) (fun _ _ _ h => h) (Or.inl ⟨by rfl, ?_⟩) (by assumption) ?_)
        rotate_left
        focus
          intro wq hSw
          (try dsimp only at hSw)
          go_simp
          all_goals (with_reducible rfl)
        simp only [Act.put, List.setIfInBounds_toArray, List.set_cons_zero, List.set_cons_succ]
        refine wpAnyH_done (by kernel_rfl) ?_ _
        go_wp2_with fail
        go_ret
        exact ⟨ret_int HQ.out.symm, by (repeat (first | (with_reducible exact Below.refl _ _) | (with_reducible assumption) | (with_reducible apply bel_alloc) | (with_reducible apply bel_drew) | (with_reducible apply bel_drewN) | (with_reducible refine bel_trans ?_ (by with_reducible assumption)) | (with_reducible refine bel_trans ?_ (HF.out _)) | ((with_reducible refine bel_set3 ?_ ?_); rotate_left; omega)))⟩
      · skip
        go_simp
        have hba : Below (w.alloc (.cells #[.int .i64 D.nodes, .int .i64 D.low, .slice A n c] 24)).drew.heap.size (w.alloc (.cells #[.int .i64 D.nodes, .int .i64 D.low, .slice A n c] 24)).drew ((w.alloc (.cells #[.int .i64 D.nodes, .int .i64 D.low, .slice A n c] 24)).drew.alloc (.cells #[.int .i64 0, .int .i64 0, .slice none 0 0, .slice none 0 0, .int .i64 0, .slice none 0 0] 48)) := bel_alloc (Below.refl _ _)
        have j0 := k0
        have j1 := k1
        have j2 := k2
        have k0 := (hba.cell (p := ⟨w.heap.size, 0, none⟩) hsz).trans k0
        have k1 := (hba.cell (p := ⟨w.heap.size, 1, none⟩) hsz).trans k1
        have k2 := (hba.cell (p := ⟨w.heap.size, 2, none⟩) hsz).trans k2
        have hbw := bel_trans hbw hba
        have hsz0 := hsz
        have hsz := Nat.lt_of_lt_of_le hsz hba.size
        refine hK.out _ _ ⟨k0, k1, k2⟩ (fun hHeld => ?_)
        clear hK K
        try simp only [Act.put, List.setIfInBounds_toArray, List.set_cons_zero, List.set_cons_succ]
        refine wpAnyH_ready (rs := [7]) (by kernel_rfl) (by simp) ?_
        refine AllReadyH.cons (o := _) rfl (fun K hK => ?_) AllReadyH.nil
        go_simp
        go_at_call 99
        refine (dag_There_some _ _ _ D.certs _ _ _ _ i _ (HL.out.up hbw) HP.out hn HS1.out HS2.out EA.out).mono ?_
        rintro e w1 ⟨p, rfl, hcp, hb1⟩
        have hcx := fun o => (bcell hb1).1 (w.heap.size + 1) o (by simp)
        have hfx := fun o => (bcell hb1).2 (w.heap.size + 1) o (by simp)
        have k0 := (hb1.cell (p := ⟨w.heap.size, 0, none⟩) hsz).trans k0
        have k1 := (hb1.cell (p := ⟨w.heap.size, 1, none⟩) hsz).trans k1
        have k2 := (hb1.cell (p := ⟨w.heap.size, 2, none⟩) hsz).trans k2
        have hbw := bel_trans hbw hb1
        have hsz := Nat.lt_of_lt_of_le hsz hb1.size
        refine hK.out _ _ ⟨k0, k1, k2⟩ (fun hHeld => ?_)
        clear hK K
        try simp only [Act.put, List.setIfInBounds_toArray, List.set_cons_zero, List.set_cons_succ]
        (refine wpAnyH_take' (i := 8) (d := some 7) (v := ?_) rfl rfl (by kernel_rfl) (by kernel_rfl) (by kernel_rfl) (fun _ _ _ h => h) (Or.inl ⟨by rfl, ?_⟩) (by assumption) ?_)
        rotate_left
        focus
          intro wq hSw
          (try dsimp only at hSw)
          go_simp
          all_goals (with_reducible rfl)
        simp only [Act.put, List.setIfInBounds_toArray, List.set_cons_zero, List.set_cons_succ]
        (refine wpAnyH_take' (i := 9) (d := some 16) (v := ?_) rfl rfl (by kernel_rfl) (by kernel_rfl) (by kernel_rfl) (fun _ _ _ h => h) (Or.inl ⟨by rfl, ?_⟩) (by assumption) ?_)
        rotate_left
        focus
          intro wq hSw
          (try dsimp only at hSw)
          go_simp
          all_goals (with_reducible rfl)
        simp only [Act.put, List.setIfInBounds_toArray, List.set_cons_zero, List.set_cons_succ]
        (refine wpAnyH_take' (i := 10) (d := some 17) (v := ?_) rfl rfl (by kernel_rfl) (by kernel_rfl) (by kernel_rfl) (fun _ _ _ h => h) (Or.inl ⟨by rfl, ?_⟩) (by assumption) ?_)
        rotate_left
        focus
          intro wq hSw
          (try dsimp only at hSw)
          go_simp
          all_goals (with_reducible rfl)
        simp only [Act.put, List.setIfInBounds_toArray, List.set_cons_zero, List.set_cons_succ]
        refine wpAnyH_ready (rs := [12]) (by kernel_rfl) (by simp) ?_
        refine AllReadyH.cons (o := _) rfl (fun K hK => ?_) AllReadyH.nil
        go_simp
        refine hK.out _ _ (keep4 (B := w.heap.size + 1) (w1 := w1) (by omega) k0 k1 k2 (by repeat (first | (with_reducible exact Below.refl _ _) | ((with_reducible refine bel_setB ?_ ?_); rotate_left; omega)))) (fun hHeld => ?_)
        clear hK K
        try simp only [Act.put, List.setIfInBounds_toArray, List.set_cons_zero, List.set_cons_succ]
        (refine wpAnyH_take' (i := 13) (d := some 6) (v := ?_) rfl rfl (by kernel_rfl) (by kernel_rfl) (by kernel_rfl) (fun _ _ _ h => h) (Or.inl ⟨by rfl, ?_⟩) (by assumption) ?_)
        rotate_left
        focus
          intro wq hSw
          (try dsimp only at hSw)
          go_simp
          all_goals (with_reducible rfl)
        simp only [Act.put, List.setIfInBounds_toArray, List.set_cons_zero, List.set_cons_succ]
        refine wpAnyH_done (by kernel_rfl) ?_ _
        go_wp2_with fail
        go_ret
        exact ⟨ret_int HQ.out.symm, by (repeat (first | (with_reducible exact Below.refl _ _) | (with_reducible assumption) | (with_reducible apply bel_alloc) | (with_reducible apply bel_drew) | (with_reducible apply bel_drewN) | (with_reducible refine bel_trans ?_ (by with_reducible assumption)) | (with_reducible refine bel_trans ?_ (HF.out _)) | ((with_reducible refine bel_set3 ?_ ?_); rotate_left; omega)))⟩
    · skip
      go_simp
      have hba : Below (w.alloc (.cells #[.int .i64 D.nodes, .int .i64 D.low, .slice A n c] 24)).drew.heap.size (w.alloc (.cells #[.int .i64 D.nodes, .int .i64 D.low, .slice A n c] 24)).drew ((w.alloc (.cells #[.int .i64 D.nodes, .int .i64 D.low, .slice A n c] 24)).drew.alloc (.cells #[.int .i64 0, .int .i64 0, .slice none 0 0, .slice none 0 0, .int .i64 0, .slice none 0 0] 48)) := bel_alloc (Below.refl _ _)
      have j0 := k0
      have j1 := k1
      have j2 := k2
      have k0 := (hba.cell (p := ⟨w.heap.size, 0, none⟩) hsz).trans k0
      have k1 := (hba.cell (p := ⟨w.heap.size, 1, none⟩) hsz).trans k1
      have k2 := (hba.cell (p := ⟨w.heap.size, 2, none⟩) hsz).trans k2
      have hbw := bel_trans hbw hba
      have hsz0 := hsz
      have hsz := Nat.lt_of_lt_of_le hsz hba.size
      refine hK.out _ _ ⟨k0, k1, k2⟩ (fun hHeld => ?_)
      clear hK K
      try simp only [Act.put, List.setIfInBounds_toArray, List.set_cons_zero, List.set_cons_succ]
      refine wpAnyH_ready (rs := [6]) (by kernel_rfl) (by simp) ?_
      refine AllReadyH.cons (o := _) rfl (fun K hK => ?_) AllReadyH.nil
      go_simp
      (go_at_call 112; refine (place_Of _ _ _).mono ?_; rintro e w' ⟨rfl, rfl⟩)
      refine hK.out _ _ ⟨k0, k1, k2⟩ (fun hHeld => ?_)
      clear hK K
      try simp only [Act.put, List.setIfInBounds_toArray, List.set_cons_zero, List.set_cons_succ]
      refine wpAnyH_ready (rs := [7]) (by kernel_rfl) (by simp) ?_
      refine AllReadyH.cons (o := _) rfl (fun K hK => ?_) AllReadyH.nil
      go_simp
      go_at_call 99
      refine (dag_There_some _ _ _ D.certs _ _ _ _ i _ (HL.out.up hbw) HP.out hn HS1.out HS2.out EA.out).mono ?_
      rintro e w1 ⟨p, rfl, hcp, hb1⟩
      have hcx := fun o => (bcell hb1).1 (w.heap.size + 1) o (by simp)
      have hfx := fun o => (bcell hb1).2 (w.heap.size + 1) o (by simp)
      have k0 := (hb1.cell (p := ⟨w.heap.size, 0, none⟩) hsz).trans k0
      have k1 := (hb1.cell (p := ⟨w.heap.size, 1, none⟩) hsz).trans k1
      have k2 := (hb1.cell (p := ⟨w.heap.size, 2, none⟩) hsz).trans k2
      have hbw := bel_trans hbw hb1
      have hsz := Nat.lt_of_lt_of_le hsz hb1.size
      refine hK.out _ _ ⟨k0, k1, k2⟩ (fun hHeld => ?_)
      clear hK K
      try simp only [Act.put, List.setIfInBounds_toArray, List.set_cons_zero, List.set_cons_succ]
      (refine wpAnyH_take' (i := 8) (d := some 7) (v := ?_) rfl rfl (by kernel_rfl) (by kernel_rfl) (by kernel_rfl) (fun _ _ _ h => h) (Or.inl ⟨by rfl, ?_⟩) (by assumption) ?_)
      rotate_left
      focus
        intro wq hSw
        (try dsimp only at hSw)
        go_simp
        all_goals (with_reducible rfl)
      simp only [Act.put, List.setIfInBounds_toArray, List.set_cons_zero, List.set_cons_succ]
      (refine wpAnyH_take' (i := 9) (d := some 16) (v := ?_) rfl rfl (by kernel_rfl) (by kernel_rfl) (by kernel_rfl) (fun _ _ _ h => h) (Or.inl ⟨by rfl, ?_⟩) (by assumption) ?_)
      rotate_left
      focus
        intro wq hSw
        (try dsimp only at hSw)
        go_simp
        all_goals (with_reducible rfl)
      simp only [Act.put, List.setIfInBounds_toArray, List.set_cons_zero, List.set_cons_succ]
      (refine wpAnyH_take' (i := 10) (d := some 17) (v := ?_) rfl rfl (by kernel_rfl) (by kernel_rfl) (by kernel_rfl) (fun _ _ _ h => h) (Or.inl ⟨by rfl, ?_⟩) (by assumption) ?_)
      rotate_left
      focus
        intro wq hSw
        (try dsimp only at hSw)
        go_simp
        all_goals (with_reducible rfl)
      simp only [Act.put, List.setIfInBounds_toArray, List.set_cons_zero, List.set_cons_succ]
      refine wpAnyH_ready (rs := [12]) (by kernel_rfl) (by simp) ?_
      refine AllReadyH.cons (o := _) rfl (fun K hK => ?_) AllReadyH.nil
      go_simp
      refine hK.out _ _ (keep4 (B := w.heap.size + 1) (w1 := w1) (by omega) k0 k1 k2 (by repeat (first | (with_reducible exact Below.refl _ _) | ((with_reducible refine bel_setB ?_ ?_); rotate_left; omega)))) (fun hHeld => ?_)
      clear hK K
      try simp only [Act.put, List.setIfInBounds_toArray, List.set_cons_zero, List.set_cons_succ]
      (refine wpAnyH_take' (i := 13) (d := some 6) (v := ?_) rfl rfl (by kernel_rfl) (by kernel_rfl) (by kernel_rfl) (fun _ _ _ h => h) (Or.inl ⟨by rfl, ?_⟩) (by assumption) ?_)
      rotate_left
      focus
        intro wq hSw
        (try dsimp only at hSw)
        go_simp
        all_goals (with_reducible rfl)
      simp only [Act.put, List.setIfInBounds_toArray, List.set_cons_zero, List.set_cons_succ]
      refine wpAnyH_done (by kernel_rfl) ?_ _
      go_wp2_with fail
      go_ret
      exact ⟨ret_int HQ.out.symm, by (repeat (first | (with_reducible exact Below.refl _ _) | (with_reducible assumption) | (with_reducible apply bel_alloc) | (with_reducible apply bel_drew) | (with_reducible apply bel_drewN) | (with_reducible refine bel_trans ?_ (by with_reducible assumption)) | (with_reducible refine bel_trans ?_ (HF.out _)) | ((with_reducible refine bel_set3 ?_ ?_); rotate_left; omega)))⟩
  · skip
    go_simp
    have hba : Below (w.alloc (.cells #[.int .i64 D.nodes, .int .i64 D.low, .slice A n c] 24)).drew.heap.size (w.alloc (.cells #[.int .i64 D.nodes, .int .i64 D.low, .slice A n c] 24)).drew ((w.alloc (.cells #[.int .i64 D.nodes, .int .i64 D.low, .slice A n c] 24)).drew.alloc (.cells #[.int .i64 0, .int .i64 0, .slice none 0 0, .slice none 0 0, .int .i64 0, .slice none 0 0] 48)) := bel_alloc (Below.refl _ _)
    have j0 := k0
    have j1 := k1
    have j2 := k2
    have k0 := (hba.cell (p := ⟨w.heap.size, 0, none⟩) hsz).trans k0
    have k1 := (hba.cell (p := ⟨w.heap.size, 1, none⟩) hsz).trans k1
    have k2 := (hba.cell (p := ⟨w.heap.size, 2, none⟩) hsz).trans k2
    have hbw := bel_trans hbw hba
    have hsz0 := hsz
    have hsz := Nat.lt_of_lt_of_le hsz hba.size
    refine hK.out _ _ ⟨k0, k1, k2⟩ (fun hHeld => ?_)
    clear hK K
    try simp only [Act.put, List.setIfInBounds_toArray, List.set_cons_zero, List.set_cons_succ]
    refine wpAnyH_ready (rs := [5]) (by kernel_rfl) (by simp) ?_
    refine AllReadyH.cons (o := _) rfl (fun K hK => ?_) AllReadyH.nil
    go_simp
    (go_at_call 113; refine (committee_Leads _ _ _ h1 h2 h3 h4).mono ?_; rintro e w' ⟨rfl, rfl⟩)
    refine hK.out _ _ ⟨k0, k1, k2⟩ (fun hHeld => ?_)
    clear hK K
    try simp only [Act.put, List.setIfInBounds_toArray, List.set_cons_zero, List.set_cons_succ]
    refine wpAnyH_ready (rs := [6]) (by kernel_rfl) (by simp) ?_
    refine AllReadyH.cons (o := _) rfl (fun K hK => ?_) AllReadyH.nil
    go_simp
    (go_at_call 112; refine (place_Of _ _ _).mono ?_; rintro e w' ⟨rfl, rfl⟩)
    refine hK.out _ _ ⟨k0, k1, k2⟩ (fun hHeld => ?_)
    clear hK K
    try simp only [Act.put, List.setIfInBounds_toArray, List.set_cons_zero, List.set_cons_succ]
    refine wpAnyH_ready (rs := [7]) (by kernel_rfl) (by simp) ?_
    refine AllReadyH.cons (o := _) rfl (fun K hK => ?_) AllReadyH.nil
    go_simp
    go_at_call 99
    refine (dag_There_some _ _ _ D.certs _ _ _ _ i _ (HL.out.up hbw) HP.out hn HS1.out HS2.out EA.out).mono ?_
    rintro e w1 ⟨p, rfl, hcp, hb1⟩
    have hcx := fun o => (bcell hb1).1 (w.heap.size + 1) o (by simp)
    have hfx := fun o => (bcell hb1).2 (w.heap.size + 1) o (by simp)
    have k0 := (hb1.cell (p := ⟨w.heap.size, 0, none⟩) hsz).trans k0
    have k1 := (hb1.cell (p := ⟨w.heap.size, 1, none⟩) hsz).trans k1
    have k2 := (hb1.cell (p := ⟨w.heap.size, 2, none⟩) hsz).trans k2
    have hbw := bel_trans hbw hb1
    have hsz := Nat.lt_of_lt_of_le hsz hb1.size
    refine hK.out _ _ ⟨k0, k1, k2⟩ (fun hHeld => ?_)
    clear hK K
    try simp only [Act.put, List.setIfInBounds_toArray, List.set_cons_zero, List.set_cons_succ]
    (refine wpAnyH_take' (i := 8) (d := some 7) (v := ?_) rfl rfl (by kernel_rfl) (by kernel_rfl) (by kernel_rfl) (fun _ _ _ h => h) (Or.inl ⟨by rfl, ?_⟩) (by assumption) ?_)
    rotate_left
    focus
      intro wq hSw
      (try dsimp only at hSw)
      go_simp
      all_goals (with_reducible rfl)
    simp only [Act.put, List.setIfInBounds_toArray, List.set_cons_zero, List.set_cons_succ]
    (refine wpAnyH_take' (i := 9) (d := some 16) (v := ?_) rfl rfl (by kernel_rfl) (by kernel_rfl) (by kernel_rfl) (fun _ _ _ h => h) (Or.inl ⟨by rfl, ?_⟩) (by assumption) ?_)
    rotate_left
    focus
      intro wq hSw
      (try dsimp only at hSw)
      go_simp
      all_goals (with_reducible rfl)
    simp only [Act.put, List.setIfInBounds_toArray, List.set_cons_zero, List.set_cons_succ]
    (refine wpAnyH_take' (i := 10) (d := some 17) (v := ?_) rfl rfl (by kernel_rfl) (by kernel_rfl) (by kernel_rfl) (fun _ _ _ h => h) (Or.inl ⟨by rfl, ?_⟩) (by assumption) ?_)
    rotate_left
    focus
      intro wq hSw
      (try dsimp only at hSw)
      go_simp
      all_goals (with_reducible rfl)
    simp only [Act.put, List.setIfInBounds_toArray, List.set_cons_zero, List.set_cons_succ]
    refine wpAnyH_ready (rs := [12]) (by kernel_rfl) (by simp) ?_
    refine AllReadyH.cons (o := _) rfl (fun K hK => ?_) AllReadyH.nil
    go_simp
    refine hK.out _ _ (keep4 (B := w.heap.size + 1) (w1 := w1) (by omega) k0 k1 k2 (by repeat (first | (with_reducible exact Below.refl _ _) | ((with_reducible refine bel_setB ?_ ?_); rotate_left; omega)))) (fun hHeld => ?_)
    clear hK K
    try simp only [Act.put, List.setIfInBounds_toArray, List.set_cons_zero, List.set_cons_succ]
    (refine wpAnyH_take' (i := 13) (d := some 6) (v := ?_) rfl rfl (by kernel_rfl) (by kernel_rfl) (by kernel_rfl) (fun _ _ _ h => h) (Or.inl ⟨by rfl, ?_⟩) (by assumption) ?_)
    rotate_left
    focus
      intro wq hSw
      (try dsimp only at hSw)
      go_simp
      all_goals (with_reducible rfl)
    simp only [Act.put, List.setIfInBounds_toArray, List.set_cons_zero, List.set_cons_succ]
    refine wpAnyH_done (by kernel_rfl) ?_ _
    go_wp2_with fail
    go_ret
    exact ⟨ret_int HQ.out.symm, by (repeat (first | (with_reducible exact Below.refl _ _) | (with_reducible assumption) | (with_reducible apply bel_alloc) | (with_reducible apply bel_drew) | (with_reducible apply bel_drewN) | (with_reducible refine bel_trans ?_ (by with_reducible assumption)) | (with_reducible refine bel_trans ?_ (HF.out _)) | ((with_reducible refine bel_set3 ?_ ?_); rotate_left; omega)))⟩
theorem anchor_Of (A : Option Addr) (n c : Nat) (D : DagD) (r : Int) (w : World) (hl : CertsR w A n D.certs) (hP : Places D.certs) (hn : n ≤ 1000000000) (h1 : 1 ≤ D.nodes) (h2 : D.nodes ≤ 16) (h3 : 2 ≤ r) (h4 : r ≤ 1099511627776) :
    Calls Try.prog 78 #[.agg #[.int .i64 D.nodes, .int .i64 D.low, .slice A n c], .int .i64 r] w fun e w' => e = .returned (.int .i64 (anchS D r)) ∧ Below w.heap.size w w' := by
  rcases atS_cases D.certs r (leadS D.nodes r) with ⟨ea, _⟩ | ⟨i, hi, ea, _⟩
  · exact anchor_Of_none A n c D r w hl hP hn h1 h2 h3 h4 ea
  · exact anchor_Of_some A n c D r i w hl hP hn h1 h2 h3 h4 ea
end Go.Proofs.Ytfkbilbgndekkaa
