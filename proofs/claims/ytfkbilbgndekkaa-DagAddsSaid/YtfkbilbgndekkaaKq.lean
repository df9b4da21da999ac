/- The certificates of a round, at the program. -/
import Derived.Test.YtfkbilbgndekkaaKg
namespace Go.Proofs.Ytfkbilbgndekkaa
open Go.RowKit
set_option linter.unusedSimpArgs false
set_option linter.unusedVariables false

noncomputable def rnL (D : DagD) (r : Int) : List CertD := if mayS D = true then roundL D.certs r else []
theorem round_out {D : DagD} (h : mayS D = true) {r : Int} (hr : r < 0 ∨ 1099511627776 < r) : roundL D.certs r = [] := by
  unfold roundL
  rw [List.filter_eq_nil_iff]
  intro c hc
  obtain ⟨k, hk, rfl⟩ := mem_cth hc
  have := mayS_ro h hk
  simp; omega
theorem round_tiny {l : List CertD} {r : Int} (h : Tiny l) : Tiny (roundL l r) := fun k hk => by
  have hm := cth_mem hk
  obtain ⟨j, hj, e⟩ := mem_cth (List.mem_filter.1 hm).1
  rw [← e]
  exact h j hj
set_option maxRecDepth 100000 in
set_option maxHeartbeats 4000000 in
theorem dag_Round (A : Option Addr) (n c : Nat) (D : DagD) (r y : Int) (L : List CertD) (w : World) (hl : CertsR w A n D.certs) (hcap : n ≤ c) (hcb : c ≤ 9223372036854775807) (hy : chkE D = y) (hL : rnL D r = L) :
    Calls Try.prog 58 #[.agg #[.int .i64 D.nodes, .int .i64 D.low, .slice A n c], .int .i64 r] w fun e w' => ∃ v ps, e = .returned (.tuple #[v, .int .i64 y]) ∧ OwnD w' w.heap.size v ps L ∧ Below w.heap.size w w' := by
  have HL := Lib.hid hl
  cases hm : mayS D
  · have HX : Hid (y = 1 ∧ L = []) := Lib.hid ⟨by rw [← hy]; simp [chkE, hm], by rw [← hL]; simp [rnL, hm]⟩
    have HM := Lib.hid hm
    clear hy hL hm hl
    go_enter Try.func58, Try.ntmps58
    go_wp2_with fail
    refine (dag_May A n c D _ (HL.out.up (by (repeat (first | (with_reducible exact Below.refl _ _) | (with_reducible assumption) | (with_reducible apply bel_alloc) | (with_reducible apply bel_drew) | (with_reducible apply bel_drewN) | (with_reducible refine bel_trans ?_ (by with_reducible assumption)) | (with_reducible refine bel_trans ?_ (HF.out _)) | (with_reducible refine bel_set ?_ (by simp) _) | (with_reducible refine bel_set ?_ (by simp; omega) _) | (with_reducible refine bel_set ?_ (by omega) _)))))).mono ?_
    rintro e w1 ⟨rfl, hb1⟩
    rw [HM.out]
    go_wp2_with fail
    go_ret2
    exact ⟨.slice none 0 0, [], by rw [HX.out.1]; rfl, by rw [HX.out.2]; exact OwnD.nil _ _, by (repeat (first | (with_reducible exact Below.refl _ _) | (with_reducible assumption) | (with_reducible apply bel_alloc) | (with_reducible apply bel_drew) | (with_reducible apply bel_drewN) | (with_reducible refine bel_trans ?_ (by with_reducible assumption)) | (with_reducible refine bel_trans ?_ (HF.out _)) | (with_reducible refine bel_set ?_ (by simp) _) | (with_reducible refine bel_set ?_ (by simp; omega) _) | (with_reducible refine bel_set ?_ (by omega) _)))⟩
  · have hn : n ≤ 65536 := by rw [← hl.1]; exact (mayS_iff.1 hm).2.2.2.1
    have HM := Lib.hid hm
    have hy0 : y = 0 := by rw [← hy]; simp [chkE, hm]
    have hLL : L = roundL D.certs r := by rw [← hL]; simp [rnL, hm]
    by_cases h1 : r < 0
    · have HX : Hid (y = 0 ∧ L = []) := Lib.hid ⟨hy0, by rw [hLL, round_out hm (.inl h1)]⟩
      have hd : decide (r < 0) = true := by simpa using h1
      clear hy hL hm hl h1 hy0 hLL
      go_enter Try.func58, Try.ntmps58
      go_wp2_with fail
      refine (dag_May A n c D _ (HL.out.up (by (repeat (first | (with_reducible exact Below.refl _ _) | (with_reducible assumption) | (with_reducible apply bel_alloc) | (with_reducible apply bel_drew) | (with_reducible apply bel_drewN) | (with_reducible refine bel_trans ?_ (by with_reducible assumption)) | (with_reducible refine bel_trans ?_ (HF.out _)) | (with_reducible refine bel_set ?_ (by simp) _) | (with_reducible refine bel_set ?_ (by simp; omega) _) | (with_reducible refine bel_set ?_ (by omega) _)))))).mono ?_
      rintro e w1 ⟨rfl, hb1⟩
      rw [HM.out]
      go_wp2_with fail
      go_ret2
      exact ⟨.slice none 0 0, [], by rw [HX.out.1]; rfl, by rw [HX.out.2]; exact OwnD.nil _ _, by (repeat (first | (with_reducible exact Below.refl _ _) | (with_reducible assumption) | (with_reducible apply bel_alloc) | (with_reducible apply bel_drew) | (with_reducible apply bel_drewN) | (with_reducible refine bel_trans ?_ (by with_reducible assumption)) | (with_reducible refine bel_trans ?_ (HF.out _)) | (with_reducible refine bel_set ?_ (by simp) _) | (with_reducible refine bel_set ?_ (by simp; omega) _) | (with_reducible refine bel_set ?_ (by omega) _)))⟩
    · have hd : decide (r < 0) = false := by simpa using h1
      by_cases h2 : 1099511627776 < r
      · have HX : Hid (y = 0 ∧ L = []) := Lib.hid ⟨hy0, by rw [hLL, round_out hm (.inr h2)]⟩
        have hd2 : decide (1099511627776 < r) = true := by simpa using h2
        clear hy hL hm hl h1 h2 hy0 hLL
        go_enter Try.func58, Try.ntmps58
        go_wp2_with fail
        refine (dag_May A n c D _ (HL.out.up (by (repeat (first | (with_reducible exact Below.refl _ _) | (with_reducible assumption) | (with_reducible apply bel_alloc) | (with_reducible apply bel_drew) | (with_reducible apply bel_drewN) | (with_reducible refine bel_trans ?_ (by with_reducible assumption)) | (with_reducible refine bel_trans ?_ (HF.out _)) | (with_reducible refine bel_set ?_ (by simp) _) | (with_reducible refine bel_set ?_ (by simp; omega) _) | (with_reducible refine bel_set ?_ (by omega) _)))))).mono ?_
        rintro e w1 ⟨rfl, hb1⟩
        rw [HM.out]
        go_wp2_with fail
        go_ret2
        exact ⟨.slice none 0 0, [], by rw [HX.out.1]; rfl, by rw [HX.out.2]; exact OwnD.nil _ _, by (repeat (first | (with_reducible exact Below.refl _ _) | (with_reducible assumption) | (with_reducible apply bel_alloc) | (with_reducible apply bel_drew) | (with_reducible apply bel_drewN) | (with_reducible refine bel_trans ?_ (by with_reducible assumption)) | (with_reducible refine bel_trans ?_ (HF.out _)) | (with_reducible refine bel_set ?_ (by simp) _) | (with_reducible refine bel_set ?_ (by simp; omega) _) | (with_reducible refine bel_set ?_ (by omega) _)))⟩
      · have hd2 : decide (1099511627776 < r) = false := by simpa using h2
        have hs : Sm r := ⟨by omega, by omega⟩
        have HOK := Lib.hid (mayS_iff.1 hm)
        have HTI := Lib.hid (round_tiny (r := r) (mayS_tiny hm))
        have HX : Hid (y = 0 ∧ L = roundL D.certs r) := Lib.hid ⟨hy0, hLL⟩
        have hlen : (roundL D.certs r).length ≤ 65536 := Nat.le_trans (List.length_filter_le _ _) (by rw [hl.1]; exact hn)
        clear hy hL hm hl h1 h2 hy0 hLL
        go_enter Try.func58, Try.ntmps58
        go_wp2_with fail
        refine (dag_May A n c D _ (HL.out.up (by (repeat (first | (with_reducible exact Below.refl _ _) | (with_reducible assumption) | (with_reducible apply bel_alloc) | (with_reducible apply bel_drew) | (with_reducible apply bel_drewN) | (with_reducible refine bel_trans ?_ (by with_reducible assumption)) | (with_reducible refine bel_trans ?_ (HF.out _)) | (with_reducible refine bel_set ?_ (by simp) _) | (with_reducible refine bel_set ?_ (by simp; omega) _) | (with_reducible refine bel_set ?_ (by omega) _)))))).mono ?_
        rintro e w1 ⟨rfl, hb1⟩
        rw [HM.out]
        have hz_w1 : w.heap.size + 1 ≤ w1.heap.size := (by have hq := (hb1).size; (try simp at hq); omega); have hc0_w1 := fun o => (bcell hb1).1 (w.heap.size) o (by first | (simp; done) | (simp; omega) | omega)
        go_wp2_with fail
        refine (dag_Of A n c D.certs D.nodes D.low r _ (HL.out.up (by (repeat (first | (with_reducible exact Below.refl _ _) | (with_reducible assumption) | (with_reducible apply bel_alloc) | (with_reducible apply bel_drew) | (with_reducible apply bel_drewN) | (with_reducible refine bel_trans ?_ (by with_reducible assumption)) | (with_reducible refine bel_trans ?_ (HF.out _)) | (with_reducible refine bel_set ?_ (by simp) _) | (with_reducible refine bel_set ?_ (by simp; omega) _) | (with_reducible refine bel_set ?_ (by omega) _))))) HOK.out.places HOK.out.auths (by omega) hcap hcb hs).mono ?_
        rintro e w2 ⟨⟨rA, rn, rc, rfl, hRC⟩, hb2⟩
        have hrn : rn ≤ 65536 := by rw [← hRC.1]; exact hlen
        have HRC := Lib.hid hRC
        clear hRC
        go_wp2_with fail
        refine (header_OwnCerts rA rn rc _ _ HRC.out (by omega) HTI.out).mono ?_
        rintro e w3 ⟨v, ps, rfl, hown, hb3⟩
        have hz2 : w.heap.size ≤ w2.heap.size := by have := hb2.size; omega
        have HO := Lib.hid hown
        clear hown
        go_wp2_with fail
        go_ret2
        exact ⟨v, ps, by rw [HX.out.1]; rfl, by rw [HX.out.2]; exact HO.out.mono hz2, by (repeat (first | (with_reducible exact Below.refl _ _) | (with_reducible assumption) | (with_reducible apply bel_alloc) | (with_reducible apply bel_drew) | (with_reducible apply bel_drewN) | (with_reducible refine bel_trans ?_ (by with_reducible assumption)) | (with_reducible refine bel_trans ?_ (HF.out _)) | (with_reducible refine bel_set ?_ (by simp) _) | (with_reducible refine bel_set ?_ (by simp; omega) _) | (with_reducible refine bel_set ?_ (by omega) _)))⟩
end Go.Proofs.Ytfkbilbgndekkaa
