/- The certificate of a place that any floats are, in any DAG, at the program. -/
import Derived.Test.YtfkbilbgndekkaaKy
namespace Go.Proofs.Ytfkbilbgndekkaa
open Go.RowKit
set_option linter.unusedSimpArgs false
set_option linter.unusedVariables false

section
variable {P : Program} {a : Act} {w : World} {Q : Exit → Act → World → Prop}
theorem wp_scope_in {c b0 : Code} (l0 : Nat) (hf0 : findLabel c l0 = some (.seq .skip b0))
    (first : c.wp P (Exit.jump l0 (fun a w => Hid (b0.wp P (Exit.noGoto Q) a w)) Q) a w) : (Code.scope c).wp P Q a w :=
  wp_scope_fwd l0 _ hf0 first (fun _ _ h => h.out)
end
theorem place_PartsAt (x y : Nat) (r a e : Int) (w : World) (h1 : paR x y = r) (h2 : paA x y = a) (h3 : paE x y = e) :
    Calls Try.prog 98 #[.complex .f64 x y] w fun en w' => en = .returned (.tuple #[.int .i64 r, .int .i64 a, .int .i64 e]) ∧ w = w' := h1 ▸ h2 ▸ h3 ▸ place_Parts x y w
/-- The place in the list, if the floats are a place. -/
noncomputable def atE (D : DagD) (x y : Nat) : Int := if mayS D = true ∧ paOk x y = true then (if 0 ≤ atS D.certs (whN x) (whN y) then 0 else 3) else 1
noncomputable def atC (D : DagD) (x y : Nat) : CertD := if mayS D = true ∧ paOk x y = true ∧ 0 ≤ atS D.certs (whN x) (whN y) then cth D.certs (atS D.certs (whN x) (whN y)).toNat else default
set_option maxRecDepth 100000 in
set_option maxHeartbeats 4000000 in
theorem dag_At (A : Option Addr) (n c : Nat) (D : DagD) (x y : Nat) (z : Int) (C : CertD) (w : World) (hl : CertsR w A n D.certs) (hz : atE D x y = z) (hC : atC D x y = C) :
    Calls Try.prog 64 #[.agg #[.int .i64 D.nodes, .int .i64 D.low, .slice A n c], .complex .f64 x y] w fun e w' => ∃ p : CertP, e = .returned (.tuple #[.agg #[.int .i64 C.h.au, .int .i64 C.h.ro, .slice p.h.b.A p.h.b.n p.h.b.c, .slice p.h.p.A p.h.p.n p.h.p.c, .int .i64 C.di, .slice p.s.A p.s.n p.s.c], .int .i64 z]) ∧ CertO w' w.heap.size p C ∧ Below w.heap.size w w' := by
  have HL := Lib.hid hl
  cases hm : mayS D
  · obtain rfl : z = 1 := by rw [← hz]; simp [atE, hm]
    obtain rfl : C = default := by rw [← hC]; simp [atC, hm]
    have HM := Lib.hid hm
    clear hz hC hm hl
    go_enter Try.func64, Try.ntmps64
    go_wp2_with fail
    refine wp_scope_in 0 rfl ?_
    go_wp2_with fail
    refine (dag_May A n c D _ (HL.out.up (by (repeat (first | (with_reducible exact Below.refl _ _) | (with_reducible assumption) | (with_reducible apply bel_alloc) | (with_reducible apply bel_drew) | (with_reducible apply bel_drewN) | (with_reducible refine bel_trans ?_ (by with_reducible assumption)) | (with_reducible refine bel_trans ?_ (HF.out _)) | (with_reducible refine bel_set ?_ (by simp) _) | (with_reducible refine bel_set ?_ (by simp; omega) _) | (with_reducible refine bel_set ?_ (by omega) _)))))).mono ?_
    rintro e w1 ⟨rfl, hb1⟩
    rw [HM.out]
    have hz_w1 : w.heap.size + 2 ≤ w1.heap.size := (by have hq := (hb1).size; (try simp at hq); omega); have hc0_w1 := fun o => (bcell hb1).1 (w.heap.size) o (by first | (simp; done) | (simp; omega) | omega); have hc1_w1 := fun o => (bcell hb1).1 (w.heap.size + 1) o (by first | (simp; done) | (simp; omega) | omega); have hf0_w1 := fun o => (bcell hb1).2 (w.heap.size) o (by first | (simp; done) | (simp; omega) | omega); have hf1_w1 := fun o => (bcell hb1).2 (w.heap.size + 1) o (by first | (simp; done) | (simp; omega) | omega)
    go_wp2_with fail
    apply wp_goto
    refine ⟨rfl, Lib.hid ?_⟩
    go_wp2_with fail
    simp only [Exit.noGoto]
    exact bodyPost_ret (v := .tuple #[.agg #[.int .i64 0, .int .i64 0, .slice none 0 0, .slice none 0 0, .int .i64 0, .slice none 0 0], .int .i64 1]) (by simp [results, Try.results64, go_sem, hc0_w1, hc1_w1]) rfl ⟨default, rfl, CertO.zero _ _, by (repeat (first | (with_reducible exact Below.refl _ _) | (with_reducible assumption) | (with_reducible apply bel_alloc) | (with_reducible apply bel_drew) | (with_reducible apply bel_drewN) | (with_reducible refine bel_trans ?_ (by with_reducible assumption)) | (with_reducible refine bel_trans ?_ (HF.out _)) | ((with_reducible refine bel_set3 ?_ ?_); rotate_left; omega)))⟩
  · have hn : n ≤ 65536 := by rw [← hl.1]; exact (mayS_iff.1 hm).2.2.2.1
    cases hp : paOk x y
    · obtain rfl : z = 1 := by rw [← hz]; simp [atE, hm, hp]
      obtain rfl : C = default := by rw [← hC]; simp [atC, hm, hp]
      have e1 : paE x y = 1 := by simp [paE, hp]
      have E1 := Lib.hid e1
      have HM := Lib.hid hm
      clear hz hC hm hl hp e1
      go_enter Try.func64, Try.ntmps64
      go_wp2_with fail
      refine wp_scope_in 0 rfl ?_
      go_wp2_with fail
      refine (dag_May A n c D _ (HL.out.up (by (repeat (first | (with_reducible exact Below.refl _ _) | (with_reducible assumption) | (with_reducible apply bel_alloc) | (with_reducible apply bel_drew) | (with_reducible apply bel_drewN) | (with_reducible refine bel_trans ?_ (by with_reducible assumption)) | (with_reducible refine bel_trans ?_ (HF.out _)) | (with_reducible refine bel_set ?_ (by simp) _) | (with_reducible refine bel_set ?_ (by simp; omega) _) | (with_reducible refine bel_set ?_ (by omega) _)))))).mono ?_
      rintro e w1 ⟨rfl, hb1⟩
      rw [HM.out]
      have hz_w1 : w.heap.size + 2 ≤ w1.heap.size := (by have hq := (hb1).size; (try simp at hq); omega); have hc0_w1 := fun o => (bcell hb1).1 (w.heap.size) o (by first | (simp; done) | (simp; omega) | omega); have hc1_w1 := fun o => (bcell hb1).1 (w.heap.size + 1) o (by first | (simp; done) | (simp; omega) | omega); have hf0_w1 := fun o => (bcell hb1).2 (w.heap.size) o (by first | (simp; done) | (simp; omega) | omega); have hf1_w1 := fun o => (bcell hb1).2 (w.heap.size + 1) o (by first | (simp; done) | (simp; omega) | omega)
      go_wp2_with fail
      refine (place_PartsAt x y _ _ 1 _ rfl rfl E1.out).mono ?_
      rintro e w2 ⟨rfl, rfl⟩
      go_wp2_with fail
      apply wp_goto
      refine ⟨rfl, Lib.hid ?_⟩
      go_wp2_with fail
      simp only [Exit.noGoto]
      exact bodyPost_ret (v := .tuple #[.agg #[.int .i64 0, .int .i64 0, .slice none 0 0, .slice none 0 0, .int .i64 0, .slice none 0 0], .int .i64 1]) (by simp [results, Try.results64, go_sem, hc0_w1, hc1_w1]) rfl ⟨default, rfl, CertO.zero _ _, by (repeat (first | (with_reducible exact Below.refl _ _) | (with_reducible assumption) | (with_reducible apply bel_alloc) | (with_reducible apply bel_drew) | (with_reducible apply bel_drewN) | (with_reducible refine bel_trans ?_ (by with_reducible assumption)) | (with_reducible refine bel_trans ?_ (HF.out _)) | ((with_reducible refine bel_set3 ?_ ?_); rotate_left; omega)))⟩
    · obtain ⟨_, _, d1, _, _, d2⟩ := pa_ok hp
      have e1 : paE x y = 0 := by simp [paE, hp]
      have E1 := Lib.hid e1
      have HP := Lib.hid (mayS_iff.1 hm).places
      rcases atS_cases D.certs (whN x) (whN y) with ⟨hk, -⟩ | ⟨i, hi, hk, -⟩
      · obtain rfl : z = 3 := by rw [← hz, atE, hk]; simp [hm, hp]
        obtain rfl : C = default := by rw [← hC, atC, hk]; simp
        have HM := Lib.hid hm
        have HK := Lib.hid hk
        clear hz hC hm hl hp e1 hk
        go_enter Try.func64, Try.ntmps64
        go_wp2_with fail
        refine wp_scope_in 0 rfl ?_
        go_wp2_with fail
        refine (dag_May A n c D _ (HL.out.up (by (repeat (first | (with_reducible exact Below.refl _ _) | (with_reducible assumption) | (with_reducible apply bel_alloc) | (with_reducible apply bel_drew) | (with_reducible apply bel_drewN) | (with_reducible refine bel_trans ?_ (by with_reducible assumption)) | (with_reducible refine bel_trans ?_ (HF.out _)) | (with_reducible refine bel_set ?_ (by simp) _) | (with_reducible refine bel_set ?_ (by simp; omega) _) | (with_reducible refine bel_set ?_ (by omega) _)))))).mono ?_
        rintro e w1 ⟨rfl, hb1⟩
        rw [HM.out]
        have hbw1 : Below w.heap.size w w1 := by (repeat (first | (with_reducible exact Below.refl _ _) | (with_reducible assumption) | (with_reducible apply bel_alloc) | (with_reducible apply bel_drew) | (with_reducible apply bel_drewN) | (with_reducible refine bel_trans ?_ (by with_reducible assumption)) | (with_reducible refine bel_trans ?_ (HF.out _)) | (with_reducible refine bel_set ?_ (by simp) _) | (with_reducible refine bel_set ?_ (by simp; omega) _) | (with_reducible refine bel_set ?_ (by omega) _)))
        have hz_w1 : w.heap.size + 2 ≤ w1.heap.size := (by have hq := (hb1).size; (try simp at hq); omega); have hc0_w1 := fun o => (bcell hb1).1 (w.heap.size) o (by first | (simp; done) | (simp; omega) | omega); have hc1_w1 := fun o => (bcell hb1).1 (w.heap.size + 1) o (by first | (simp; done) | (simp; omega) | omega); have hf0_w1 := fun o => (bcell hb1).2 (w.heap.size) o (by first | (simp; done) | (simp; omega) | omega); have hf1_w1 := fun o => (bcell hb1).2 (w.heap.size + 1) o (by first | (simp; done) | (simp; omega) | omega)
        go_wp2_with fail
        refine (place_PartsAt x y _ _ 0 _ rfl rfl E1.out).mono ?_
        rintro e w2 ⟨rfl, rfl⟩
        go_wp2_with fail
        refine (dag_ThereD_none A n c D.certs _ _ (whN x) (whN y) x y _ (HL.out.up hbw1) HP.out (by omega) d1 d2 HK.out).mono ?_
        rintro e w2 ⟨rfl, hb2⟩
        have hb12 := bel_trans hb1 hb2
        have hz_w2 : w.heap.size + 2 ≤ w2.heap.size := (by have hq := (hb12).size; (try simp at hq); omega); have hc0_w2 := fun o => (bcell hb12).1 (w.heap.size) o (by first | (simp; done) | (simp; omega) | omega); have hc1_w2 := fun o => (bcell hb12).1 (w.heap.size + 1) o (by first | (simp; done) | (simp; omega) | omega); have hf0_w2 := fun o => (bcell hb12).2 (w.heap.size) o (by first | (simp; done) | (simp; omega) | omega); have hf1_w2 := fun o => (bcell hb12).2 (w.heap.size + 1) o (by first | (simp; done) | (simp; omega) | omega)
        go_upto_region 6 with fail
        have hbX : Below w.heap.size w ((((((w2.setCell ⟨w.heap.size + 1, 0, none⟩ (.int .i64 0)).setCell ⟨w.heap.size + 1, 1, none⟩ (.int .i64 0)).setCell ⟨w.heap.size + 1, 2, none⟩ (.slice none 0 0)).setCell ⟨w.heap.size + 1, 3, none⟩ (.slice none 0 0)).setCell ⟨w.heap.size + 1, 4, none⟩ (.int .i64 0)).setCell ⟨w.heap.size + 1, 5, none⟩ (.slice none 0 0)) := by (repeat (first | (with_reducible exact Below.refl _ _) | (with_reducible assumption) | (with_reducible apply bel_alloc) | (with_reducible apply bel_drew) | (with_reducible apply bel_drewN) | (with_reducible refine bel_trans ?_ (by with_reducible assumption)) | (with_reducible refine bel_trans ?_ (HF.out _)) | ((with_reducible refine bel_set3 ?_ ?_); rotate_left; omega)))
        have x0 : ((((((w2.setCell ⟨w.heap.size + 1, 0, none⟩ (.int .i64 0)).setCell ⟨w.heap.size + 1, 1, none⟩ (.int .i64 0)).setCell ⟨w.heap.size + 1, 2, none⟩ (.slice none 0 0)).setCell ⟨w.heap.size + 1, 3, none⟩ (.slice none 0 0)).setCell ⟨w.heap.size + 1, 4, none⟩ (.int .i64 0)).setCell ⟨w.heap.size + 1, 5, none⟩ (.slice none 0 0)).cell? ⟨w.heap.size + 1, 0, none⟩ = some (.int .i64 0) := by first | (simp [hc1_w2]; done) | (simp [go_sem, hc1_w2]; done)
        have x1 : ((((((w2.setCell ⟨w.heap.size + 1, 0, none⟩ (.int .i64 0)).setCell ⟨w.heap.size + 1, 1, none⟩ (.int .i64 0)).setCell ⟨w.heap.size + 1, 2, none⟩ (.slice none 0 0)).setCell ⟨w.heap.size + 1, 3, none⟩ (.slice none 0 0)).setCell ⟨w.heap.size + 1, 4, none⟩ (.int .i64 0)).setCell ⟨w.heap.size + 1, 5, none⟩ (.slice none 0 0)).cell? ⟨w.heap.size + 1, 1, none⟩ = some (.int .i64 0) := by first | (simp [hc1_w2]; done) | (simp [go_sem, hc1_w2]; done)
        have x2 : ((((((w2.setCell ⟨w.heap.size + 1, 0, none⟩ (.int .i64 0)).setCell ⟨w.heap.size + 1, 1, none⟩ (.int .i64 0)).setCell ⟨w.heap.size + 1, 2, none⟩ (.slice none 0 0)).setCell ⟨w.heap.size + 1, 3, none⟩ (.slice none 0 0)).setCell ⟨w.heap.size + 1, 4, none⟩ (.int .i64 0)).setCell ⟨w.heap.size + 1, 5, none⟩ (.slice none 0 0)).cell? ⟨w.heap.size + 1, 2, none⟩ = some (.slice none 0 0) := by first | (simp [hc1_w2]; done) | (simp [go_sem, hc1_w2]; done)
        have x3 : ((((((w2.setCell ⟨w.heap.size + 1, 0, none⟩ (.int .i64 0)).setCell ⟨w.heap.size + 1, 1, none⟩ (.int .i64 0)).setCell ⟨w.heap.size + 1, 2, none⟩ (.slice none 0 0)).setCell ⟨w.heap.size + 1, 3, none⟩ (.slice none 0 0)).setCell ⟨w.heap.size + 1, 4, none⟩ (.int .i64 0)).setCell ⟨w.heap.size + 1, 5, none⟩ (.slice none 0 0)).cell? ⟨w.heap.size + 1, 3, none⟩ = some (.slice none 0 0) := by first | (simp [hc1_w2]; done) | (simp [go_sem, hc1_w2]; done)
        have x4 : ((((((w2.setCell ⟨w.heap.size + 1, 0, none⟩ (.int .i64 0)).setCell ⟨w.heap.size + 1, 1, none⟩ (.int .i64 0)).setCell ⟨w.heap.size + 1, 2, none⟩ (.slice none 0 0)).setCell ⟨w.heap.size + 1, 3, none⟩ (.slice none 0 0)).setCell ⟨w.heap.size + 1, 4, none⟩ (.int .i64 0)).setCell ⟨w.heap.size + 1, 5, none⟩ (.slice none 0 0)).cell? ⟨w.heap.size + 1, 4, none⟩ = some (.int .i64 0) := by first | (simp [hc1_w2]; done) | (simp [go_sem, hc1_w2]; done)
        have x5 : ((((((w2.setCell ⟨w.heap.size + 1, 0, none⟩ (.int .i64 0)).setCell ⟨w.heap.size + 1, 1, none⟩ (.int .i64 0)).setCell ⟨w.heap.size + 1, 2, none⟩ (.slice none 0 0)).setCell ⟨w.heap.size + 1, 3, none⟩ (.slice none 0 0)).setCell ⟨w.heap.size + 1, 4, none⟩ (.int .i64 0)).setCell ⟨w.heap.size + 1, 5, none⟩ (.slice none 0 0)).cell? ⟨w.heap.size + 1, 5, none⟩ = some (.slice none 0 0) := by first | (simp [hc1_w2]; done) | (simp [go_sem, hc1_w2]; done)
        have xf : ∀ o, ((((((w2.setCell ⟨w.heap.size + 1, 0, none⟩ (.int .i64 0)).setCell ⟨w.heap.size + 1, 1, none⟩ (.int .i64 0)).setCell ⟨w.heap.size + 1, 2, none⟩ (.slice none 0 0)).setCell ⟨w.heap.size + 1, 3, none⟩ (.slice none 0 0)).setCell ⟨w.heap.size + 1, 4, none⟩ (.int .i64 0)).setCell ⟨w.heap.size + 1, 5, none⟩ (.slice none 0 0)).frozen? ⟨w.heap.size + 1, o, none⟩ = false := fun o => by simp [hf1_w2]
        have hzX : w.heap.size + 2 ≤ ((((((w2.setCell ⟨w.heap.size + 1, 0, none⟩ (.int .i64 0)).setCell ⟨w.heap.size + 1, 1, none⟩ (.int .i64 0)).setCell ⟨w.heap.size + 1, 2, none⟩ (.slice none 0 0)).setCell ⟨w.heap.size + 1, 3, none⟩ (.slice none 0 0)).setCell ⟨w.heap.size + 1, 4, none⟩ (.int .i64 0)).setCell ⟨w.heap.size + 1, 5, none⟩ (.slice none 0 0)).heap.size := by simpa [World.setCell] using hz_w2
        generalize ((((((w2.setCell ⟨w.heap.size + 1, 0, none⟩ (.int .i64 0)).setCell ⟨w.heap.size + 1, 1, none⟩ (.int .i64 0)).setCell ⟨w.heap.size + 1, 2, none⟩ (.slice none 0 0)).setCell ⟨w.heap.size + 1, 3, none⟩ (.slice none 0 0)).setCell ⟨w.heap.size + 1, 4, none⟩ (.int .i64 0)).setCell ⟨w.heap.size + 1, 5, none⟩ (.slice none 0 0)) = X at *
        go_wp2_with fail
        simp only [Exit.jump]
        exact bodyPost_ret (v := .tuple #[.agg #[.int .i64 0, .int .i64 0, .slice none 0 0, .slice none 0 0, .int .i64 0, .slice none 0 0], .int .i64 3]) (by simp [results, Try.results64, go_sem, x0, x1, x2, x3, x4, x5]) rfl ⟨default, rfl, CertO.zero _ _, by (repeat (first | (with_reducible exact Below.refl _ _) | (with_reducible assumption) | (with_reducible apply bel_alloc) | (with_reducible apply bel_drew) | (with_reducible apply bel_drewN) | (with_reducible refine bel_trans ?_ (by with_reducible assumption)) | (with_reducible refine bel_trans ?_ (HF.out _)) | ((with_reducible refine bel_set3 ?_ ?_); rotate_left; omega)))⟩
      · obtain rfl : z = 0 := by rw [← hz, atE, hk]; simp [hm, hp]
        obtain rfl : C = cth D.certs i := by rw [← hC, atC, hk]; simp [hm, hp]
        obtain ⟨t1, t2, t3⟩ := mayS_tiny hm i hi
        have HM := Lib.hid hm
        have HK := Lib.hid hk
        clear hz hC hm hl hp e1 hk hi
        go_enter Try.func64, Try.ntmps64
        go_wp2_with fail
        refine wp_scope_in 0 rfl ?_
        go_wp2_with fail
        refine (dag_May A n c D _ (HL.out.up (by (repeat (first | (with_reducible exact Below.refl _ _) | (with_reducible assumption) | (with_reducible apply bel_alloc) | (with_reducible apply bel_drew) | (with_reducible apply bel_drewN) | (with_reducible refine bel_trans ?_ (by with_reducible assumption)) | (with_reducible refine bel_trans ?_ (HF.out _)) | (with_reducible refine bel_set ?_ (by simp) _) | (with_reducible refine bel_set ?_ (by simp; omega) _) | (with_reducible refine bel_set ?_ (by omega) _)))))).mono ?_
        rintro e w1 ⟨rfl, hb1⟩
        rw [HM.out]
        have hbw1 : Below w.heap.size w w1 := by (repeat (first | (with_reducible exact Below.refl _ _) | (with_reducible assumption) | (with_reducible apply bel_alloc) | (with_reducible apply bel_drew) | (with_reducible apply bel_drewN) | (with_reducible refine bel_trans ?_ (by with_reducible assumption)) | (with_reducible refine bel_trans ?_ (HF.out _)) | (with_reducible refine bel_set ?_ (by simp) _) | (with_reducible refine bel_set ?_ (by simp; omega) _) | (with_reducible refine bel_set ?_ (by omega) _)))
        have hz_w1 : w.heap.size + 2 ≤ w1.heap.size := (by have hq := (hb1).size; (try simp at hq); omega); have hc0_w1 := fun o => (bcell hb1).1 (w.heap.size) o (by first | (simp; done) | (simp; omega) | omega); have hc1_w1 := fun o => (bcell hb1).1 (w.heap.size + 1) o (by first | (simp; done) | (simp; omega) | omega); have hf0_w1 := fun o => (bcell hb1).2 (w.heap.size) o (by first | (simp; done) | (simp; omega) | omega); have hf1_w1 := fun o => (bcell hb1).2 (w.heap.size + 1) o (by first | (simp; done) | (simp; omega) | omega)
        go_wp2_with fail
        refine (place_PartsAt x y _ _ 0 _ rfl rfl E1.out).mono ?_
        rintro e w2 ⟨rfl, rfl⟩
        go_wp2_with fail
        refine (dag_ThereD_some A n c D.certs _ _ (whN x) (whN y) i x y w _ hbw1 HL.out HP.out (by omega) d1 d2 HK.out).mono ?_
        rintro e w2 ⟨p, rfl, hcr, hb2⟩
        have hb12 := bel_trans hb1 hb2
        have hbw2 : Below w.heap.size w w2 := bel_trans hbw1 hb2
        have hz_w2 : w.heap.size + 2 ≤ w2.heap.size := (by have hq := (hb12).size; (try simp at hq); omega); have hc0_w2 := fun o => (bcell hb12).1 (w.heap.size) o (by first | (simp; done) | (simp; omega) | omega); have hc1_w2 := fun o => (bcell hb12).1 (w.heap.size + 1) o (by first | (simp; done) | (simp; omega) | omega); have hf0_w2 := fun o => (bcell hb12).2 (w.heap.size) o (by first | (simp; done) | (simp; omega) | omega); have hf1_w2 := fun o => (bcell hb12).2 (w.heap.size + 1) o (by first | (simp; done) | (simp; omega) | omega)
        have h1 : p.h.b.n ≤ 900000000 := by rw [← hcr.1.1.1]; exact t1
        have h2 : p.h.p.n ≤ 900000000 := by rw [← hcr.1.2.1]; exact t2
        have h3 : p.s.n ≤ 900000000 := by rw [← hcr.2.1]; exact t3
        have HCR := Lib.hid hcr
        obtain ⟨⟨⟨bA, bn, bc⟩, ⟨pA, pn, pc⟩⟩, ⟨sA, sn, sc⟩⟩ := p
        dsimp only at h1 h2 h3 ⊢
        clear hcr
        go_wp2_with fail
        have hbX : Below w.heap.size w ((((((w2.setCell ⟨w.heap.size + 1, 0, none⟩ (.int .i64 (cth D.certs i).h.au)).setCell ⟨w.heap.size + 1, 1, none⟩ (.int .i64 (cth D.certs i).h.ro)).setCell ⟨w.heap.size + 1, 2, none⟩ (.slice bA bn bc)).setCell ⟨w.heap.size + 1, 3, none⟩ (.slice pA pn pc)).setCell ⟨w.heap.size + 1, 4, none⟩ (.int .i64 (cth D.certs i).di)).setCell ⟨w.heap.size + 1, 5, none⟩ (.slice sA sn sc)) := by (repeat (first | (with_reducible exact Below.refl _ _) | (with_reducible assumption) | (with_reducible apply bel_alloc) | (with_reducible apply bel_drew) | (with_reducible apply bel_drewN) | (with_reducible refine bel_trans ?_ (by with_reducible assumption)) | (with_reducible refine bel_trans ?_ (HF.out _)) | ((with_reducible refine bel_set3 ?_ ?_); rotate_left; omega)))
        have x0 : ((((((w2.setCell ⟨w.heap.size + 1, 0, none⟩ (.int .i64 (cth D.certs i).h.au)).setCell ⟨w.heap.size + 1, 1, none⟩ (.int .i64 (cth D.certs i).h.ro)).setCell ⟨w.heap.size + 1, 2, none⟩ (.slice bA bn bc)).setCell ⟨w.heap.size + 1, 3, none⟩ (.slice pA pn pc)).setCell ⟨w.heap.size + 1, 4, none⟩ (.int .i64 (cth D.certs i).di)).setCell ⟨w.heap.size + 1, 5, none⟩ (.slice sA sn sc)).cell? ⟨w.heap.size + 1, 0, none⟩ = some (.int .i64 (cth D.certs i).h.au) := by first | (simp [hc1_w2]; done) | (simp [go_sem, hc1_w2]; done)
        have x1 : ((((((w2.setCell ⟨w.heap.size + 1, 0, none⟩ (.int .i64 (cth D.certs i).h.au)).setCell ⟨w.heap.size + 1, 1, none⟩ (.int .i64 (cth D.certs i).h.ro)).setCell ⟨w.heap.size + 1, 2, none⟩ (.slice bA bn bc)).setCell ⟨w.heap.size + 1, 3, none⟩ (.slice pA pn pc)).setCell ⟨w.heap.size + 1, 4, none⟩ (.int .i64 (cth D.certs i).di)).setCell ⟨w.heap.size + 1, 5, none⟩ (.slice sA sn sc)).cell? ⟨w.heap.size + 1, 1, none⟩ = some (.int .i64 (cth D.certs i).h.ro) := by first | (simp [hc1_w2]; done) | (simp [go_sem, hc1_w2]; done)
        have x2 : ((((((w2.setCell ⟨w.heap.size + 1, 0, none⟩ (.int .i64 (cth D.certs i).h.au)).setCell ⟨w.heap.size + 1, 1, none⟩ (.int .i64 (cth D.certs i).h.ro)).setCell ⟨w.heap.size + 1, 2, none⟩ (.slice bA bn bc)).setCell ⟨w.heap.size + 1, 3, none⟩ (.slice pA pn pc)).setCell ⟨w.heap.size + 1, 4, none⟩ (.int .i64 (cth D.certs i).di)).setCell ⟨w.heap.size + 1, 5, none⟩ (.slice sA sn sc)).cell? ⟨w.heap.size + 1, 2, none⟩ = some (.slice bA bn bc) := by first | (simp [hc1_w2]; done) | (simp [go_sem, hc1_w2]; done)
        have x3 : ((((((w2.setCell ⟨w.heap.size + 1, 0, none⟩ (.int .i64 (cth D.certs i).h.au)).setCell ⟨w.heap.size + 1, 1, none⟩ (.int .i64 (cth D.certs i).h.ro)).setCell ⟨w.heap.size + 1, 2, none⟩ (.slice bA bn bc)).setCell ⟨w.heap.size + 1, 3, none⟩ (.slice pA pn pc)).setCell ⟨w.heap.size + 1, 4, none⟩ (.int .i64 (cth D.certs i).di)).setCell ⟨w.heap.size + 1, 5, none⟩ (.slice sA sn sc)).cell? ⟨w.heap.size + 1, 3, none⟩ = some (.slice pA pn pc) := by first | (simp [hc1_w2]; done) | (simp [go_sem, hc1_w2]; done)
        have x4 : ((((((w2.setCell ⟨w.heap.size + 1, 0, none⟩ (.int .i64 (cth D.certs i).h.au)).setCell ⟨w.heap.size + 1, 1, none⟩ (.int .i64 (cth D.certs i).h.ro)).setCell ⟨w.heap.size + 1, 2, none⟩ (.slice bA bn bc)).setCell ⟨w.heap.size + 1, 3, none⟩ (.slice pA pn pc)).setCell ⟨w.heap.size + 1, 4, none⟩ (.int .i64 (cth D.certs i).di)).setCell ⟨w.heap.size + 1, 5, none⟩ (.slice sA sn sc)).cell? ⟨w.heap.size + 1, 4, none⟩ = some (.int .i64 (cth D.certs i).di) := by first | (simp [hc1_w2]; done) | (simp [go_sem, hc1_w2]; done)
        have x5 : ((((((w2.setCell ⟨w.heap.size + 1, 0, none⟩ (.int .i64 (cth D.certs i).h.au)).setCell ⟨w.heap.size + 1, 1, none⟩ (.int .i64 (cth D.certs i).h.ro)).setCell ⟨w.heap.size + 1, 2, none⟩ (.slice bA bn bc)).setCell ⟨w.heap.size + 1, 3, none⟩ (.slice pA pn pc)).setCell ⟨w.heap.size + 1, 4, none⟩ (.int .i64 (cth D.certs i).di)).setCell ⟨w.heap.size + 1, 5, none⟩ (.slice sA sn sc)).cell? ⟨w.heap.size + 1, 5, none⟩ = some (.slice sA sn sc) := by first | (simp [hc1_w2]; done) | (simp [go_sem, hc1_w2]; done)
        have xf : ∀ o, ((((((w2.setCell ⟨w.heap.size + 1, 0, none⟩ (.int .i64 (cth D.certs i).h.au)).setCell ⟨w.heap.size + 1, 1, none⟩ (.int .i64 (cth D.certs i).h.ro)).setCell ⟨w.heap.size + 1, 2, none⟩ (.slice bA bn bc)).setCell ⟨w.heap.size + 1, 3, none⟩ (.slice pA pn pc)).setCell ⟨w.heap.size + 1, 4, none⟩ (.int .i64 (cth D.certs i).di)).setCell ⟨w.heap.size + 1, 5, none⟩ (.slice sA sn sc)).frozen? ⟨w.heap.size + 1, o, none⟩ = false := fun o => by simp [hf1_w2]
        have hzX : w.heap.size + 2 ≤ ((((((w2.setCell ⟨w.heap.size + 1, 0, none⟩ (.int .i64 (cth D.certs i).h.au)).setCell ⟨w.heap.size + 1, 1, none⟩ (.int .i64 (cth D.certs i).h.ro)).setCell ⟨w.heap.size + 1, 2, none⟩ (.slice bA bn bc)).setCell ⟨w.heap.size + 1, 3, none⟩ (.slice pA pn pc)).setCell ⟨w.heap.size + 1, 4, none⟩ (.int .i64 (cth D.certs i).di)).setCell ⟨w.heap.size + 1, 5, none⟩ (.slice sA sn sc)).heap.size := by simpa [World.setCell] using hz_w2
        generalize ((((((w2.setCell ⟨w.heap.size + 1, 0, none⟩ (.int .i64 (cth D.certs i).h.au)).setCell ⟨w.heap.size + 1, 1, none⟩ (.int .i64 (cth D.certs i).h.ro)).setCell ⟨w.heap.size + 1, 2, none⟩ (.slice bA bn bc)).setCell ⟨w.heap.size + 1, 3, none⟩ (.slice pA pn pc)).setCell ⟨w.heap.size + 1, 4, none⟩ (.int .i64 (cth D.certs i).di)).setCell ⟨w.heap.size + 1, 5, none⟩ (.slice sA sn sc)) = X at *
        refine (header_OwnCert (cth D.certs i) bA pA sA bn bc pn pc sn sc _ (HCR.out.up hbX) h1 h2 h3).mono ?_
        rintro e w3 ⟨p, rfl, ho, hb3⟩
        have k0 := (hb3.cell (p := ⟨w.heap.size + 1, 0, none⟩) (by show w.heap.size + 1 < X.heap.size; omega)).trans x0
        have k1 := (hb3.cell (p := ⟨w.heap.size + 1, 1, none⟩) (by show w.heap.size + 1 < X.heap.size; omega)).trans x1
        have k2 := (hb3.cell (p := ⟨w.heap.size + 1, 2, none⟩) (by show w.heap.size + 1 < X.heap.size; omega)).trans x2
        have k3 := (hb3.cell (p := ⟨w.heap.size + 1, 3, none⟩) (by show w.heap.size + 1 < X.heap.size; omega)).trans x3
        have k4 := (hb3.cell (p := ⟨w.heap.size + 1, 4, none⟩) (by show w.heap.size + 1 < X.heap.size; omega)).trans x4
        have k5 := (hb3.cell (p := ⟨w.heap.size + 1, 5, none⟩) (by show w.heap.size + 1 < X.heap.size; omega)).trans x5
        have kf : ∀ o, w3.frozen? ⟨w.heap.size + 1, o, none⟩ = false := fun o => ((bcell hb3).2 (w.heap.size + 1) o (by omega)).trans (xf o)
        have hz3 : w.heap.size + 2 ≤ w3.heap.size := Nat.le_trans hzX hb3.size
        have HO := Lib.hid (ho.mono hzX)
        have hbw3 : Below w.heap.size w w3 := bel_trans hbX hb3
        clear ho x0 x1 x2 x3 x4 x5 xf
        go_wp2_with fail
        simp only [Exit.jump]
        refine bodyPost_ret (v := .tuple #[.agg #[.int .i64 (cth D.certs i).h.au, .int .i64 (cth D.certs i).h.ro, .slice p.h.b.A p.h.b.n p.h.b.c, .slice p.h.p.A p.h.p.n p.h.p.c, .int .i64 (cth D.certs i).di, .slice p.s.A p.s.n p.s.c], .int .i64 0]) (by simp [results, Try.results64, go_sem, k0, k1, k2, k3, k4, k5]) rfl ⟨p, rfl, CertO.mono (B := w.heap.size + 2) ?_ (by omega), by (repeat (first | (with_reducible exact Below.refl _ _) | (with_reducible assumption) | (with_reducible apply bel_alloc) | (with_reducible apply bel_drew) | (with_reducible apply bel_drewN) | (with_reducible refine bel_trans ?_ (by with_reducible assumption)) | (with_reducible refine bel_trans ?_ (HF.out _)) | ((with_reducible refine bel_set3 ?_ ?_); rotate_left; omega)))⟩
        iterate 6 (refine CertO.setLow (b := w.heap.size + 1) ?_ (by omega))
        exact HO.out
end Go.Proofs.Ytfkbilbgndekkaa
