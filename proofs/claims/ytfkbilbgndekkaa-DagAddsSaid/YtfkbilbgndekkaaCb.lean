/- The reference's Below. -/
import Derived.Test.YtfkbilbgndekkaaCw
import Derived.Test.YtfkbilbgndekkaaL
namespace Go.Proofs.Ytfkbilbgndekkaa
open Go.RowKit
set_option linter.unusedSimpArgs false
set_option linter.unusedVariables false

theorem ref14_FindAt' (A : Option Addr) (n c : Nat) (l : List CertD) (nodes low x y : Int) (w : World) (hl : CertsR w A n l) (hy : findS l x = y) :
    Calls Try.prog 18 #[.agg #[.int .i64 nodes, .int .i64 low, .slice A n c], .int .i64 x] w fun e w' => e = .returned (.int .i64 y) ∧ Below w.heap.size w w' := hy ▸ ref14_Find A n c l nodes low x w hl
set_option maxRecDepth 100000 in
set_option maxHeartbeats 1000000 in
theorem ref14_Below (A : Option Addr) (n c : Nat) (certs : List CertD) (nodes dlow : Int) (x low : Int) (ia : Nat) (ea : findS certs x = (ia : Int)) (w : World) (hl : CertsR w A n certs) (hn : n ≤ 65536)
    (hro : ∀ k, k < n → 1 ≤ (cth certs k).h.ro ∧ (cth certs k).h.ro ≤ 1099511627776) (hlo1 : -9223372036854775808 ≤ dlow) (hlo2 : dlow ≤ 1099511627776) :
    Calls Try.prog 19 #[.agg #[.int .i64 nodes, .int .i64 dlow, .slice A n c], .int .i64 x, .int .i64 low] w fun e w' => ∃ v, e = .returned v ∧ OwnI w' w.heap.size v (belowS certs dlow low ia) ∧ Below w.heap.size w w' := by
  have HL := Lib.hid hl
  have hia : ia < n := by have := findS_lt (l := certs) (x := x) (by omega); rw [hl.1] at this; omega
  have HN := Lib.hid hl.1
  obtain ⟨b, off, rfl, hb, hc⟩ := hl.2.2 (by omega)
  have HCC := Lib.hid hc
  clear hl hc
  have HRO := Lib.hid hro; clear hro
  have EA := Lib.hid ea; clear ea
  go_enter Try.func19, Try.ntmps19
  go_wp2_with fail
  go_region_held3 (fun w' => w'.cell? ⟨w.heap.size, 0, none⟩ = some (.int .i64 nodes) ∧ w'.cell? ⟨w.heap.size, 1, none⟩ = some (.int .i64 dlow) ∧ w'.cell? ⟨w.heap.size, 2, none⟩ = some (.slice (some ⟨b, off, none⟩) n c))
    (first | exact ⟨k0, k1, k2⟩ | exact ⟨by simp, by simp, by simp⟩)
    (first
      | (go_at_call 18; refine (ref14_FindAt' _ _ _ certs _ _ _ (ia : Int) _ (HL.out.up (by (repeat (first | (with_reducible exact Below.refl _ _) | (with_reducible assumption) | (with_reducible apply bel_alloc) | (with_reducible apply bel_drew) | (with_reducible apply bel_drewN) | (with_reducible refine bel_trans ?_ (by with_reducible assumption)) | (with_reducible refine bel_trans ?_ (HF.out _)) | (with_reducible refine bel_set ?_ (by simp) _) | (with_reducible refine bel_set ?_ (by simp; omega) _) | (with_reducible refine bel_set ?_ (by omega) _))))) EA.out).mono ?_; rintro e w1 ⟨rfl, hb1⟩; have k0 := (hb1.cell (p := ⟨w.heap.size, 0, none⟩) (by simp)).trans (by simp : _ = some (.int .i64 nodes)); have k1 := (hb1.cell (p := ⟨w.heap.size, 1, none⟩) (by simp)).trans (by simp : _ = some (.int .i64 dlow)); have k2 := (hb1.cell (p := ⟨w.heap.size, 2, none⟩) (by simp)).trans (by simp : _ = some (.slice (some ⟨b, off, none⟩) n c)); have hbw1 : Below w.heap.size w w1 := (by (repeat (first | (with_reducible exact Below.refl _ _) | (with_reducible assumption) | (with_reducible apply bel_alloc) | (with_reducible apply bel_drew) | (with_reducible apply bel_drewN) | (with_reducible refine bel_trans ?_ (by with_reducible assumption)) | (with_reducible refine bel_trans ?_ (HF.out _)) | (with_reducible refine bel_set ?_ (by simp) _) | (with_reducible refine bel_set ?_ (by simp; omega) _) | (with_reducible refine bel_set ?_ (by omega) _)))); have hs1 : w.heap.size < w1.heap.size := Nat.lt_of_lt_of_le (by simp) hb1.size)
      | (go_at_call 69; refine (ref14_marks' _ n c certs _ _ _ ia rfl _ (HL.out.up hbw1) hia hn HRO.out hlo1 hlo2).mono ?_; rintro e w2 ⟨g, rfl, hge, hkm, hb2⟩; have k0 := (hb2.cell (p := ⟨w.heap.size, 0, none⟩) hs1).trans (k0 : _ = some (.int .i64 nodes)); have k1 := (hb2.cell (p := ⟨w.heap.size, 1, none⟩) hs1).trans (k1 : _ = some (.int .i64 dlow)); have k2 := (hb2.cell (p := ⟨w.heap.size, 2, none⟩) hs1).trans (k2 : _ = some (.slice (some ⟨b, off, none⟩) n c)); have hbw2 : Below w.heap.size w w2 := bel_trans hbw1 hb2; have hs2 : w.heap.size < w2.heap.size := Nat.lt_of_lt_of_le hs1 hb2.size))
  go_wp2_with fail
  go_loopw [8, 9] (fun v i wr => ∃ j : Nat, j ≤ n ∧ i = .int .i64 j ∧ OwnI wr w2.heap.size v (belowL certs low (marksS certs dlow ia) j) ∧ Below w2.heap.size w2 wr) (fun _ i _ => n - (intOf i).toNat)
  case atStart => exact ⟨0, Nat.zero_le _, rfl, OwnI.nil _ _, by (repeat (first | (with_reducible exact Below.refl _ _) | (with_reducible assumption) | (with_reducible apply bel_alloc) | (with_reducible apply bel_drew) | (with_reducible apply bel_drewN) | (with_reducible refine bel_trans ?_ (by with_reducible assumption)) | (with_reducible refine bel_trans ?_ (HF.out _)) | (with_reducible refine bel_set ?_ (by simp) _) | (with_reducible refine bel_set ?_ (by simp; omega) _) | (with_reducible refine bel_set ?_ (by omega) _)))⟩
  case round =>
    obtain ⟨j, hj, rfl, hown, hbx⟩ := hrel
    (obtain ⟨wx, hwx⟩ : ∃ x, x = wr := ⟨_, rfl⟩); subst hwx
    have K0 := (hbx.cell (p := ⟨w.heap.size, 0, none⟩) hs2).trans (k0 : _ = some (.int .i64 nodes))
    have K1 := (hbx.cell (p := ⟨w.heap.size, 1, none⟩) hs2).trans (k1 : _ = some (.int .i64 dlow))
    have K2 := (hbx.cell (p := ⟨w.heap.size, 2, none⟩) hs2).trans (k2 : _ = some (.slice (some ⟨b, off, none⟩) n c))
    clear k0 k1 k2
    have hbw : Below w.heap.size w wx := bel_trans hbw2 hbx
    by_cases hlt : j < n
    · have hmj := (hkm.up hbx).box.2 j _ (mb_get hlt)
      obtain ⟨p, hat, _⟩ := HCC.out j hlt
      have q1 := (hat.up hbw hb).2.1
      have q4 := (hat.up hbw hb).2.2.2.2.1
      clear hat
      have hlen := belowL_len certs low (marksS certs dlow ia) j
      have hsz := hbx.size
      cases hM : marksS certs dlow ia j
      · rw [hM] at hmj
        have e := belowL_no certs low (marksS certs dlow ia) j hM
        have HE := Lib.hid e
        clear e hM
        go_wp2_with fail
        (first | (go_round; (case rel => exact ⟨j + 1, by omega, by go_num, by rw [HE.out]; exact hown, hbx⟩); (case measure => (simp [intOf] <;> omega))) | (go_roundw; (case rel => exact ⟨j + 1, by omega, by go_num, by rw [HE.out]; exact hown, hbx⟩); (case measure => (simp [intOf] <;> omega))) | (refine ⟨?_, by simp [intOf] <;> omega⟩; (repeat apply Exists.intro); refine ⟨?rel, ?fr⟩; (case fr => ((repeat' apply And.intro) <;> rfl)); (case rel => exact ⟨j + 1, by omega, by go_num, by rw [HE.out]; exact hown, hbx⟩)))
      · rw [hM] at hmj
        by_cases hlow : low < (cth certs j).h.ro
        · have e := belowL_yes certs low (marksS certs dlow ia) j hM hlow
          have HE := Lib.hid e
          clear e hM
          go_wp2_with (at_builtin; refine wpList_app1 rfl (.tmp 36) (.tmp 43) rfl (w2.heap.size) u8 _ rfl (hown.alloc _) _ (cth certs j).di rfl (cell0_alloc _ _ _) (by omega) (le_alloc hsz) ?_; intro v1 w3 hown1 hg1 hbel1 hat1)
          (first | (go_round; (case rel => exact ⟨j + 1, by omega, by go_num, by rw [HE.out]; exact hown1, Below.trans (bel_alloc hbx) hbel1⟩); (case measure => (simp [intOf] <;> omega))) | (go_roundw; (case rel => exact ⟨j + 1, by omega, by go_num, by rw [HE.out]; exact hown1, Below.trans (bel_alloc hbx) hbel1⟩); (case measure => (simp [intOf] <;> omega))) | (refine ⟨?_, by simp [intOf] <;> omega⟩; (repeat apply Exists.intro); refine ⟨?rel, ?fr⟩; (case fr => ((repeat' apply And.intro) <;> rfl)); (case rel => exact ⟨j + 1, by omega, by go_num, by rw [HE.out]; exact hown1, Below.trans (bel_alloc hbx) hbel1⟩)))
        · have e := belowL_low certs low (marksS certs dlow ia) j hlow
          have HE := Lib.hid e
          clear e hM
          go_wp2_with fail
          (first | (go_round; (case rel => exact ⟨j + 1, by omega, by go_num, by rw [HE.out]; exact hown, hbx⟩); (case measure => (simp [intOf] <;> omega))) | (go_roundw; (case rel => exact ⟨j + 1, by omega, by go_num, by rw [HE.out]; exact hown, hbx⟩); (case measure => (simp [intOf] <;> omega))) | (refine ⟨?_, by simp [intOf] <;> omega⟩; (repeat apply Exists.intro); refine ⟨?rel, ?fr⟩; (case fr => ((repeat' apply And.intro) <;> rfl)); (case rel => exact ⟨j + 1, by omega, by go_num, by rw [HE.out]; exact hown, hbx⟩)))
    · obtain rfl : j = n := by omega
      go_wp2_with fail
      go_ret
      refine ⟨_, rfl, ?_, hbw⟩
      unfold belowS
      rw [HN.out]
      exact hown.mono hbw2.size
end Go.Proofs.Ytfkbilbgndekkaa
