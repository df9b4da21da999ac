/- dag.May: a map of what was seen, two loops, a test that draws its order. -/
import Derived.Test.YtfkbilbgndekkaaD
import Derived.Test.YtfkbilbgndekkaaM
namespace Go.Proofs.Ytfkbilbgndekkaa
open Go.RowKit
set_option linter.unusedSimpArgs false
set_option linter.unusedVariables false

/-- Each digest's round, of the first k certificates. -/
def seenL (l : List CertD) : Nat → Int → Int
  | 0, _ => 0
  | k + 1, m => if m = (cth l k).di then (cth l k).h.ro else seenL l k m
def ParOk (l : List CertD) (low : Int) (k i : Nat) : Prop := low + 1 < (cth l k).h.ro → seenL l k (nth (cth l k).h.pa i) = (cth l k).h.ro - 1
def CertOk (l : List CertD) (nodes low : Int) (k : Nat) : Prop :=
  certS (cth l k) nodes = true ∧ low < (cth l k).h.ro ∧ seenL l k (cth l k).di ≤ 0 ∧ (0 < k → befS (cth l (k-1)).h.ro (cth l (k-1)).h.au (cth l k).h.ro (cth l k).h.au = true) ∧
  ∀ i, i < (cth l k).h.pa.length → ParOk l low k i
def DagOk (D : DagD) : Prop := isS D.nodes = true ∧ 0 ≤ D.low ∧ D.low ≤ 1099511627776 ∧ D.certs.length ≤ 65536 ∧ ∀ k, k < D.certs.length → CertOk D.certs D.nodes D.low k
noncomputable def mayS (D : DagD) : Bool := dec (DagOk D)
theorem certS_sm {C : CertD} {n : Int} (h : certS C n = true) : Sm C.h.ro ∧ Sm C.h.au := by have := certS_bd h; exact ⟨⟨by omega, by omega⟩, ⟨by omega, by omega⟩⟩
theorem CertAt.fam {ι : Type} {F : ι → World} {b off : Nat} {p : CertP} {C : CertD} (h : ∀ n, CertAt (F n) b off p C) :
    (∀ n, (F n).cell? ⟨b, off, none⟩ = some (.int .i64 C.h.au)) ∧ (∀ n, (F n).cell? ⟨b, off + 1, none⟩ = some (.int .i64 C.h.ro)) ∧
    (∀ n, (F n).cell? ⟨b, off + 2, none⟩ = some (.slice p.h.b.A p.h.b.n p.h.b.c)) ∧ (∀ n, (F n).cell? ⟨b, off + 3, none⟩ = some (.slice p.h.p.A p.h.p.n p.h.p.c)) ∧
    (∀ n, (F n).cell? ⟨b, off + 4, none⟩ = some (.int .i64 C.di)) ∧ (∀ n, (F n).cell? ⟨b, off + 5, none⟩ = some (.slice p.s.A p.s.n p.s.c)) :=
  ⟨fun n => (h n).1, fun n => (h n).2.1, fun n => (h n).2.2.1, fun n => (h n).2.2.2.1, fun n => (h n).2.2.2.2.1, fun n => (h n).2.2.2.2.2⟩

theorem CertAt.famIf {ι : Type} {F : ι → World} {q : Prop} {b off : Nat} {p : CertP} {C : CertD} (h : ∀ n, q → CertAt (F n) b off p C) :
    (∀ n, q → (F n).cell? ⟨b, off, none⟩ = some (.int .i64 C.h.au)) ∧ (∀ n, q → (F n).cell? ⟨b, off + 1, none⟩ = some (.int .i64 C.h.ro)) ∧
    (∀ n, q → (F n).cell? ⟨b, off + 2, none⟩ = some (.slice p.h.b.A p.h.b.n p.h.b.c)) ∧ (∀ n, q → (F n).cell? ⟨b, off + 3, none⟩ = some (.slice p.h.p.A p.h.p.n p.h.p.c)) ∧
    (∀ n, q → (F n).cell? ⟨b, off + 4, none⟩ = some (.int .i64 C.di)) ∧ (∀ n, q → (F n).cell? ⟨b, off + 5, none⟩ = some (.slice p.s.A p.s.n p.s.c)) :=
  ⟨fun n g => (h n g).1, fun n g => (h n g).2.1, fun n g => (h n g).2.2.1, fun n g => (h n g).2.2.2.1, fun n g => (h n g).2.2.2.2.1, fun n g => (h n g).2.2.2.2.2⟩

set_option maxRecDepth 100000 in
set_option maxHeartbeats 1000000 in
theorem dag_May (A : Option Addr) (n c : Nat) (D : DagD) (w : World) (hl : CertsR w A n D.certs) :
    Calls Try.prog 70 #[.agg #[.int .i64 D.nodes, .int .i64 D.low, .slice A n c]] w fun e w' => e = .returned (.bool (mayS D)) ∧ Below w.heap.size w w' := by
  obtain ⟨h1, h2, h3⟩ := hl
  have H1 := Lib.hid h1; clear h1
  have H3 := Lib.hid h3; clear h3
  have hmm := @run_makeMap Try.prog
  go_enter Try.func70, Try.ntmps70
  go_wp2_with (go_at_call 87; refine (committee_Is _ _).mono ?_; rintro e w' ⟨rfl, rfl⟩)
  all_goals first
    | (go_ret; refine ⟨ret_bool (dec_false fun ⟨g1, g2, g3, g4, _⟩ => ?_), by (repeat (first | (with_reducible exact Below.refl _ _) | (with_reducible assumption) | (with_reducible apply bel_alloc) | (with_reducible apply bel_drew) | (with_reducible apply bel_drewN) | (with_reducible refine bel_trans ?_ (by with_reducible assumption)) | (with_reducible refine bel_trans ?_ (HF.out _)) | (with_reducible refine bel_set ?_ (by simp) _) | (with_reducible refine bel_set ?_ (by simp; omega) _) | (with_reducible refine bel_set ?_ (by omega) _)))⟩; go_light; have e := H1.out; simp_all; try omega)
    | skip
  go_loopw [32] (fun i wr => ∃ k : Nat, k ≤ n ∧ i = .int .i64 k ∧ Hid (∀ j, j < k → CertOk D.certs D.nodes D.low j) ∧ Below w.heap.size w wr ∧ w.heap.size + 2 ≤ wr.heap.size ∧
      MapR (Value.int .i64) 0 wr (w.heap.size + 1) (seenL D.certs k) ∧ BoxR wr w.heap.size [.int .i64 D.nodes, .int .i64 D.low, .slice A n c]) (fun i _ => n - (intOf i).toNat)
  case atStart => exact ⟨0, Nat.zero_le _, rfl, fun j hj => absurd hj (by omega), by (repeat (first | (with_reducible exact Below.refl _ _) | (with_reducible assumption) | (with_reducible apply bel_alloc) | (with_reducible apply bel_drew) | (with_reducible apply bel_drewN) | (with_reducible refine bel_trans ?_ (by with_reducible assumption)) | (with_reducible refine bel_trans ?_ (HF.out _)) | (with_reducible refine bel_set ?_ (by simp) _) | (with_reducible refine bel_set ?_ (by simp; omega) _) | (with_reducible refine bel_set ?_ (by omega) _))), by simp, MapR.made' (by simp) rfl, ((BoxR.new w [.int .i64 D.nodes, .int .i64 D.low, .slice A n c] 24).up (by (repeat (first | (with_reducible exact Below.refl _ _) | (with_reducible assumption) | (with_reducible apply bel_alloc) | (with_reducible apply bel_drew) | (with_reducible apply bel_drewN) | (with_reducible refine bel_trans ?_ (by with_reducible assumption)) | (with_reducible refine bel_trans ?_ (HF.out _)) | (with_reducible refine bel_set ?_ (by simp) _) | (with_reducible refine bel_set ?_ (by simp; omega) _) | (with_reducible refine bel_set ?_ (by omega) _)))))⟩
  case round =>
    obtain ⟨k, hk, rfl, hok, hbw, hsz, hM, hB⟩ := hrel
    have b_0 := (hB).2 0 _ rfl; have b_1 := (hB).2 1 _ rfl; have b_2 := (hB).2 2 _ rfl
    by_cases hlt : k < n
    · obtain ⟨b, off, rfl, hb, hc⟩ := H3.out (by omega)
      obtain ⟨p, hat, hcr⟩ := hc k hlt
      obtain ⟨c0, c1, c2, c3, c4, c5⟩ := hat.up hbw hb
      obtain ⟨⟨⟨bA, bn, bc⟩, ⟨pA, pn, pc⟩⟩, ⟨sA, sn, sc⟩⟩ := p
      dsimp only at c0 c1 c2 c3 c4 c5
      have hbr : b < wr.heap.size := Nat.lt_of_lt_of_le hb hbw.size
      obtain ⟨pp, hpp⟩ : ∃ pp, 0 < k → CertAt wr b (off + (k - 1) * 6) pp (cth D.certs (k - 1)) := by
        rcases Nat.eq_zero_or_pos k with h0 | h0
        · exact ⟨default, fun h => absurd h (by omega)⟩
        · obtain ⟨pp, hp, _⟩ := hc (k - 1) (by omega)
          exact ⟨pp, fun _ => hp.up hbw hb⟩
      have HPP := Lib.hid hpp; clear hpp
      have HCR := Lib.hid hcr; clear hcr
      have HM := Lib.hid hM; clear hM
      have HB := Lib.hid hB; clear hB
      clear hc hat
      go_wp2
      have hlook : ∀ (X : World), Below wr.heap.size wr X → ∀ m, (Instr.lookup 111 (.map (some (w.heap.size + 1))) (.int .i64 m) false).run Try.prog X = .ok (.int .i64 (seenL D.certs k m)) X := fun X hX m =>
        (HM.out.up hX).lookup Try.underlying111 Try.underlying3 (by kernel_rfl) m
      have HL := Lib.hid hlook; clear hlook
      have hlen : (cth D.certs k).h.pa.length = pn := HCR.out.1.2.1
      have HN := Lib.hid hlen; clear hlen
      have hpnb : pn ≤ 9223372036854775807 := HCR.out.1.2.2.1
      refine wp_region_fam (by kernel_rfl) (by kernel_rfl) (fun ι F hne hF hcl => ?_)
      have hcF0 := fun n o => (bcell (hF n)).1 (wr.heap.size) o (by first | (simp; done) | (simp; omega) | omega)
      have hlF := fun n m => HL.out (F n) (by (repeat (first | (with_reducible exact Below.refl _ _) | (with_reducible assumption) | (with_reducible apply bel_alloc) | (with_reducible apply bel_drew) | (with_reducible apply bel_drewN) | (with_reducible refine bel_trans ?_ (by with_reducible assumption)) | (with_reducible refine bel_trans ?_ (hF _)) | (with_reducible refine bel_set ?_ (by simp) _) | (with_reducible refine bel_set ?_ (by simp; omega) _) | (with_reducible refine bel_set ?_ (by omega) _)))) m
      have bxF := fun n => (HB.out).up (w' := F n) (by (repeat (first | (with_reducible exact Below.refl _ _) | (with_reducible assumption) | (with_reducible apply bel_alloc) | (with_reducible apply bel_drew) | (with_reducible apply bel_drewN) | (with_reducible refine bel_trans ?_ (by with_reducible assumption)) | (with_reducible refine bel_trans ?_ (hF _)) | (with_reducible refine bel_set ?_ (by simp) _) | (with_reducible refine bel_set ?_ (by simp; omega) _) | (with_reducible refine bel_set ?_ (by omega) _))))
      have bxF_0 := fun n => (bxF n).2 0 _ rfl
      have bxF_1 := fun n => (bxF n).2 1 _ rfl
      have bxF_2 := fun n => (bxF n).2 2 _ rfl
      clear bxF
      obtain ⟨pp0, pp1, pp2, pp3, pp4, pp5⟩ := CertAt.famIf (F := F) (fun n h => (HPP.out h).up (w' := F n) (by (repeat (first | (with_reducible exact Below.refl _ _) | (with_reducible assumption) | (with_reducible apply bel_alloc) | (with_reducible apply bel_drew) | (with_reducible apply bel_drewN) | (with_reducible refine bel_trans ?_ (by with_reducible assumption)) | (with_reducible refine bel_trans ?_ (hF _)) | (with_reducible refine bel_set ?_ (by simp) _) | (with_reducible refine bel_set ?_ (by simp; omega) _) | (with_reducible refine bel_set ?_ (by omega) _)))) hbr)
      have HF := Lib.hid hF; clear hF
      have HC := Lib.hid hcl; clear hcl
      repeat (any_goals (first
       | go_big_quiet_step (first | (go_at_call 83; exact Calls.fam HC.out (header_MayCert' _ _ _ _ _ _ _ _ _ _ _ _ (HCR.out.up (by (repeat (first | (with_reducible exact Below.refl _ _) | (with_reducible assumption) | (with_reducible apply bel_alloc) | (with_reducible apply bel_drew) | (with_reducible apply bel_drewN) | (with_reducible refine bel_trans ?_ (by with_reducible assumption)) | (with_reducible refine bel_trans ?_ (HF.out _)) | (with_reducible refine bel_set ?_ (by simp) _) | (with_reducible refine bel_set ?_ (by simp; omega) _) | (with_reducible refine bel_set ?_ (by omega) _))))))) | (go_at_call 102; exact Calls.fam HC.out (dag_Place' _ _ _ _ _ _ _ _ _ _ _ _ _)) | (go_at_call 101; exact Calls.fam_same (place_Less _ _ _ _ _ (certS_sm (hok.out (k - 1) (by omega)).1).1 (certS_sm (hok.out (k - 1) (by omega)).1).2 (certS_sm (C := cth D.certs k) (n := D.nodes) (by assumption)).1 (certS_sm (C := cth D.certs k) (n := D.nodes) (by assumption)).2)))
       | (refine wpQuiet_guard _ _ _ rfl rfl ?_; (fail_if_success (intro b' hb; have h2 := hb.symm; have : b' = true := h2.trans (by with_reducible rfl))); (fail_if_success (intro b' hb; have h2 := hb.symm; have : b' = false := h2.trans (by with_reducible rfl))); intro b' hb; simp only [hb]; cases b' <;> (try simp only [Bool.not_eq_true', Bool.not_eq_false', decide_eq_true_eq, decide_eq_false_iff_not, Int.not_lt, Int.not_le, Bool.and_eq_true, Bool.or_eq_true, Bool.or_eq_false_iff, beq_iff_eq, beq_eq_false_iff_ne, Int.natCast_pos] at hb))))
      all_goals (refine wpQuiet_nil ?_; intro nq; go_wp2_with (fail))
      all_goals first
        | (go_ret; refine ⟨ret_bool (dec_false fun g => ?_), by (repeat (first | (with_reducible exact Below.refl _ _) | (with_reducible assumption) | (with_reducible apply bel_alloc) | (with_reducible apply bel_drew) | (with_reducible apply bel_drewN) | (with_reducible refine bel_trans ?_ (by with_reducible assumption)) | (with_reducible refine bel_trans ?_ (HF.out _)) | (with_reducible refine bel_set ?_ (by simp) _) | (with_reducible refine bel_set ?_ (by simp; omega) _) | (with_reducible refine bel_set ?_ (by omega) _)))⟩; obtain ⟨q1, q2, q3, q4, q5⟩ := g.2.2.2.2 k (by rw [H1.out]; exact hlt); go_light; simp_all <;> omega)
        | skip
      all_goals
        have hbd := certS_bd (C := cth D.certs k) (n := D.nodes) (by assumption)
        have hr1 : 1 ≤ (cth D.certs k).h.ro := hbd.2.2.2.2.2.1
        have hr2 : (cth D.certs k).h.ro ≤ 1099511627776 := hbd.2.2.2.2.2.2.1
        clear hbd
        go_loop [78] (fun i => ∃ m : Nat, m ≤ pn ∧ i = .int .i64 m ∧ Hid (∀ j, j < m → ParOk D.certs D.low k j)) (fun i => pn - (intOf i).toNat)
        case atStart => exact ⟨0, Nat.zero_le _, rfl, fun j hj => absurd hj (by omega)⟩
        case round =>
          obtain ⟨m, hm, rfl, hpar⟩ := hrel
          by_cases hlt2 : m < pn
          · obtain ⟨b2, off2, rfl, hb2, hcc⟩ := (HCR.out.1.2.up (w' := F nq) (by (repeat (first | (with_reducible exact Below.refl _ _) | (with_reducible assumption) | (with_reducible apply bel_alloc) | (with_reducible apply bel_drew) | (with_reducible apply bel_drewN) | (with_reducible refine bel_trans ?_ (by with_reducible assumption)) | (with_reducible refine bel_trans ?_ (HF.out _)) | (with_reducible refine bel_set ?_ (by simp) _) | (with_reducible refine bel_set ?_ (by simp; omega) _) | (with_reducible refine bel_set ?_ (by omega) _))))).2.2 (Nat.lt_of_le_of_lt (Nat.zero_le m) hlt2)
            have hcm := hcc m hlt2
            clear hcc
            go_wp2
            all_goals first
              | (go_ret; refine ⟨ret_bool (dec_false fun g => ?_), by (repeat (first | (with_reducible exact Below.refl _ _) | (with_reducible assumption) | (with_reducible apply bel_alloc) | (with_reducible apply bel_drew) | (with_reducible apply bel_drewN) | (with_reducible refine bel_trans ?_ (by with_reducible assumption)) | (with_reducible refine bel_trans ?_ (HF.out _)) | (with_reducible refine bel_set ?_ (by simp) _) | (with_reducible refine bel_set ?_ (by simp; omega) _) | (with_reducible refine bel_set ?_ (by omega) _)))⟩; have q := (g.2.2.2.2 k (by rw [H1.out]; exact hlt)).2.2.2.2 m (by rw [HN.out]; exact hlt2); go_light; unfold ParOk at q; simp_all <;> omega)
              | (first | (go_round; (case rel => (refine ⟨m + 1, by omega, by go_num, fun j hj => ?_⟩; rcases Nat.lt_or_ge j m with hjm | hjm; exact hpar.out j hjm; obtain rfl : j = m := (by omega); go_light; unfold ParOk; intro hlow; simp_all <;> omega)); (case measure => (simp [intOf] <;> omega))) | (go_roundw; (case rel => (refine ⟨m + 1, by omega, by go_num, fun j hj => ?_⟩; rcases Nat.lt_or_ge j m with hjm | hjm; exact hpar.out j hjm; obtain rfl : j = m := (by omega); go_light; unfold ParOk; intro hlow; simp_all <;> omega)); (case measure => (simp [intOf] <;> omega))) | (refine ⟨?_, by simp [intOf] <;> omega⟩; (repeat apply Exists.intro); refine ⟨?rel, ?fr⟩; (case fr => ((repeat' apply And.intro) <;> rfl)); (case rel => (refine ⟨m + 1, by omega, by go_num, fun j hj => ?_⟩; rcases Nat.lt_or_ge j m with hjm | hjm; exact hpar.out j hjm; obtain rfl : j = m := (by omega); go_light; unfold ParOk; intro hlow; simp_all <;> omega))))
          · go_wp2_with (at_mapUpdate; refine wpList_mapUpd (Value.int .i64) 0 rfl _ _ _ 111 3 3 (.inl rfl) Try.underlying111 Try.underlying3 (HM.out.up (by (repeat (first | (with_reducible exact Below.refl _ _) | (with_reducible assumption) | (with_reducible apply bel_alloc) | (with_reducible apply bel_drew) | (with_reducible apply bel_drewN) | (with_reducible refine bel_trans ?_ (by with_reducible assumption)) | (with_reducible refine bel_trans ?_ (HF.out _)) | (with_reducible refine bel_set ?_ (by simp) _) | (with_reducible refine bel_set ?_ (by simp; omega) _) | (with_reducible refine bel_set ?_ (by omega) _))))) rfl _ rfl _ rfl ?_; intro w2 hM2 hg2 hsz2)
            have hb2 : Below w.heap.size w w2 := bel_grown (by (repeat (first | (with_reducible exact Below.refl _ _) | (with_reducible assumption) | (with_reducible apply bel_alloc) | (with_reducible apply bel_drew) | (with_reducible apply bel_drewN) | (with_reducible refine bel_trans ?_ (by with_reducible assumption)) | (with_reducible refine bel_trans ?_ (HF.out _)) | (with_reducible refine bel_set ?_ (by simp) _) | (with_reducible refine bel_set ?_ (by simp; omega) _) | (with_reducible refine bel_set ?_ (by omega) _)))) hg2 (by omega)
            go_roundw
            case rel =>
              refine ⟨k + 1, by omega, by go_num, fun j hj => ?_, hb2, by have := hg2.size; have := (HF.out nq).size; simp at this; omega, hM2, (HB.out.up (by (repeat (first | (with_reducible exact Below.refl _ _) | (with_reducible assumption) | (with_reducible apply bel_alloc) | (with_reducible apply bel_drew) | (with_reducible apply bel_drewN) | (with_reducible refine bel_trans ?_ (by with_reducible assumption)) | (with_reducible refine bel_trans ?_ (HF.out _)) | (with_reducible refine bel_set ?_ (by simp) _) | (with_reducible refine bel_set ?_ (by simp; omega) _) | (with_reducible refine bel_set ?_ (by omega) _))))).grown hg2 (by omega)⟩
              by_cases hjk : j = k
              · subst hjk
                refine ⟨by assumption, ?_, ?_, ?_, fun i hi => hpar.out i (by rw [HN.out] at hi; omega)⟩
                all_goals (go_light; simp_all; try omega)
              · exact hok.out j (by omega)
            case measure => simp [intOf]; omega
    · go_wp2
      go_ret
      refine ⟨ret_bool (dec_true ⟨by assumption, by omega, by omega, by rw [H1.out]; omega, fun j hj => hok.out j (by rw [H1.out] at hj; omega)⟩), by (repeat (first | (with_reducible exact Below.refl _ _) | (with_reducible assumption) | (with_reducible apply bel_alloc) | (with_reducible apply bel_drew) | (with_reducible apply bel_drewN) | (with_reducible refine bel_trans ?_ (by with_reducible assumption)) | (with_reducible refine bel_trans ?_ (HF.out _)) | (with_reducible refine bel_set ?_ (by simp) _) | (with_reducible refine bel_set ?_ (by simp; omega) _) | (with_reducible refine bel_set ?_ (by omega) _)))⟩
end Go.Proofs.Ytfkbilbgndekkaa
