/- The reference's Lacks and May. -/
import Derived.Test.YtfkbilbgndekkaaH
namespace Go.Proofs.Ytfkbilbgndekkaa
open Go.RowKit
set_option linter.unusedSimpArgs false
set_option linter.unusedVariables false

def lackB (certs : List CertD) (ro : Int) (x : Int) : Bool := decide (findS certs x < 0) || decide ((cth certs (findS certs x).toNat).h.ro ≠ ro - 1)
def lacksS (certs : List CertD) (low : Int) (H : HeaderD) : List Int := if H.ro - 1 ≤ low then [] else H.pa.filter (lackB certs H.ro)
theorem filter_take {p : Int → Bool} (l : List Int) (k : Nat) (h : k < l.length) : (l.take (k + 1)).filter p = (l.take k).filter p ++ (if p (nth l k) then [nth l k] else []) := by
  rw [take_nth l k h, List.filter_append]; by_cases hp : p (nth l k) <;> simp [hp]

set_option maxRecDepth 100000 in
set_option maxHeartbeats 1000000 in
theorem ref14_Lacks (A : Option Addr) (n c : Nat) (certs : List CertD) (nodes low : Int) (p : HeaderP) (H : HeaderD) (w : World) (hl : CertsR w A n certs) (hh : HeaderR w p H) (hn : n ≤ 65536) (hp : p.p.n ≤ 65536)
    (hr1 : 1 ≤ H.ro) (hr2 : H.ro ≤ 1099511627776) :
    Calls Try.prog 52 #[.agg #[.int .i64 nodes, .int .i64 low, .slice A n c], .agg #[.int .i64 H.au, .int .i64 H.ro, .slice p.b.A p.b.n p.b.c, .slice p.p.A p.p.n p.p.c]] w fun e w' => ∃ v, e = .returned v ∧ OwnI w' w.heap.size v (lacksS certs low H) ∧ Below w.heap.size w w' := by
  obtain ⟨⟨bA, bn, bc⟩, ⟨pA, pn, pc⟩⟩ := p
  dsimp only at hp ⊢
  have HL := Lib.hid hl; clear hl
  have HH := Lib.hid hh; clear hh
  have hlen : H.pa.length = pn := HH.out.2.1
  have HN := Lib.hid hlen; clear hlen
  by_cases hlow : H.ro - 1 ≤ low
  · go_enter Try.func52, Try.ntmps52
    go_wp2
    go_ret
    exact ⟨_, rfl, by unfold lacksS; rw [if_pos hlow]; exact OwnI.nil _ _, by (repeat (first | (with_reducible exact Below.refl _ _) | (with_reducible assumption) | (with_reducible apply bel_alloc) | (with_reducible apply bel_drew) | (with_reducible apply bel_drewN) | (with_reducible refine bel_trans ?_ (by with_reducible assumption)) | (with_reducible refine bel_trans ?_ (HF.out _)) | (with_reducible refine bel_set ?_ (by simp) _) | (with_reducible refine bel_set ?_ (by simp; omega) _) | (with_reducible refine bel_set ?_ (by omega) _)))⟩
  · go_enter Try.func52, Try.ntmps52
    go_wp2
    go_loopw [5, 6] (fun v i wr => ∃ j : Nat, j ≤ pn ∧ i = .int .i64 j ∧ Below w.heap.size w wr ∧ w.heap.size + 2 ≤ wr.heap.size ∧ BoxR wr w.heap.size [.int .i64 nodes, .int .i64 low, .slice A n c] ∧
        BoxR wr (w.heap.size + 1) [.int .i64 H.au, .int .i64 H.ro, .slice bA bn bc, .slice pA pn pc] ∧ OwnI wr (w.heap.size + 2) v ((H.pa.take j).filter (lackB certs H.ro))) (fun _ i _ => pn - (intOf i).toNat)
    case atStart => exact ⟨0, Nat.zero_le _, rfl, by (repeat (first | (with_reducible exact Below.refl _ _) | (with_reducible assumption) | (with_reducible apply bel_alloc) | (with_reducible apply bel_drew) | (with_reducible apply bel_drewN) | (with_reducible refine bel_trans ?_ (by with_reducible assumption)) | (with_reducible refine bel_trans ?_ (HF.out _)) | (with_reducible refine bel_set ?_ (by simp) _) | (with_reducible refine bel_set ?_ (by simp; omega) _) | (with_reducible refine bel_set ?_ (by omega) _))), by simp, (BoxR.new w [.int .i64 nodes, .int .i64 low, .slice A n c] 24).up (by (repeat (first | (with_reducible exact Below.refl _ _) | (with_reducible assumption) | (with_reducible apply bel_alloc) | (with_reducible apply bel_drew) | (with_reducible apply bel_drewN) | (with_reducible refine bel_trans ?_ (by with_reducible assumption)) | (with_reducible refine bel_trans ?_ (HF.out _)) | (with_reducible refine bel_set ?_ (by simp) _) | (with_reducible refine bel_set ?_ (by simp; omega) _) | (with_reducible refine bel_set ?_ (by omega) _)))), BoxR.new' _ [.int .i64 H.au, .int .i64 H.ro, .slice bA bn bc, .slice pA pn pc] 46 (by simp), OwnI.nil _ _⟩
    case round =>
      obtain ⟨j, hj, rfl, hbw, hsz, hB, hC, hown⟩ := hrel
      have b_0 := (hB).2 0 _ rfl; have b_1 := (hB).2 1 _ rfl; have b_2 := (hB).2 2 _ rfl
      have h_0 := (hC).2 0 _ rfl; have h_1 := (hC).2 1 _ rfl; have h_2 := (hC).2 2 _ rfl; have h_3 := (hC).2 3 _ rfl
      by_cases hlt : j < pn
      · have hro1 : IntKind.i64.wrap (H.ro - 1) = H.ro - 1 := IntWalk.i64_in _ (by omega)
        obtain ⟨b2, off2, rfl, hb2, hcc⟩ := (HH.out.2.up hbw).2.2 (Nat.lt_of_le_of_lt (Nat.zero_le j) hlt)
        have hcm := hcc j hlt
        clear hcc
        have HB := Lib.hid hB; have HC1 := Lib.hid hC; have HO := Lib.hid hown
        clear hB hC hown
        go_wp2
        refine wp_region_fam (by kernel_rfl) (by kernel_rfl) (fun ι F hne hF hcl => ?_)
        have hcF0 := fun n o => (bcell (hF n)).1 (b2) o (by first | (simp; done) | (simp; omega) | omega)
        have bxF := fun n => (HB.out).up (w' := F n) (by (repeat (first | (with_reducible exact Below.refl _ _) | (with_reducible assumption) | (with_reducible apply bel_alloc) | (with_reducible apply bel_drew) | (with_reducible apply bel_drewN) | (with_reducible refine bel_trans ?_ (by with_reducible assumption)) | (with_reducible refine bel_trans ?_ (hF _)) | (with_reducible refine bel_set ?_ (by simp) _) | (with_reducible refine bel_set ?_ (by simp; omega) _) | (with_reducible refine bel_set ?_ (by omega) _))))
        have bxF_0 := fun n => (bxF n).2 0 _ rfl
        have bxF_1 := fun n => (bxF n).2 1 _ rfl
        have bxF_2 := fun n => (bxF n).2 2 _ rfl
        clear bxF
        have hxF := fun n => (HC1.out).up (w' := F n) (by (repeat (first | (with_reducible exact Below.refl _ _) | (with_reducible assumption) | (with_reducible apply bel_alloc) | (with_reducible apply bel_drew) | (with_reducible apply bel_drewN) | (with_reducible refine bel_trans ?_ (by with_reducible assumption)) | (with_reducible refine bel_trans ?_ (hF _)) | (with_reducible refine bel_set ?_ (by simp) _) | (with_reducible refine bel_set ?_ (by simp; omega) _) | (with_reducible refine bel_set ?_ (by omega) _))))
        have hxF_0 := fun n => (hxF n).2 0 _ rfl
        have hxF_1 := fun n => (hxF n).2 1 _ rfl
        have hxF_2 := fun n => (hxF n).2 2 _ rfl
        have hxF_3 := fun n => (hxF n).2 3 _ rfl
        clear hxF
        have HF := Lib.hid hF; clear hF
        have HC := Lib.hid hcl; clear hcl
        repeat (any_goals (first
         | go_big_quiet_step (first | (go_at_call 18; exact Calls.fam HC.out (ref14_Find _ _ _ certs _ _ _ _ (HL.out.up (by (repeat (first | (with_reducible exact Below.refl _ _) | (with_reducible assumption) | (with_reducible apply bel_alloc) | (with_reducible apply bel_drew) | (with_reducible apply bel_drewN) | (with_reducible refine bel_trans ?_ (by with_reducible assumption)) | (with_reducible refine bel_trans ?_ (HF.out _)) | (with_reducible refine bel_set ?_ (by simp) _) | (with_reducible refine bel_set ?_ (by simp; omega) _) | (with_reducible refine bel_set ?_ (by omega) _))))))))
         | (refine wpQuiet_guard _ _ _ rfl rfl ?_; (fail_if_success (intro b' hb; have h2 := hb.symm; have : b' = true := h2.trans (by with_reducible rfl))); (fail_if_success (intro b' hb; have h2 := hb.symm; have : b' = false := h2.trans (by with_reducible rfl))); intro b' hb; simp only [hb]; cases b' <;> (try simp only [Bool.not_eq_true', Bool.not_eq_false', decide_eq_true_eq, decide_eq_false_iff_not, Int.not_lt, Int.not_le, Bool.and_eq_true, Bool.or_eq_true, Bool.or_eq_false_iff, beq_iff_eq, beq_eq_false_iff_ne, Int.natCast_pos] at hb))))
        all_goals (refine wpQuiet_nil ?_; intro nq; go_wp2_with (fail))
        have hFn := HF.out nq
        have hbF : Below w.heap.size w (F nq) := by (repeat (first | (with_reducible exact Below.refl _ _) | (with_reducible assumption) | (with_reducible apply bel_alloc) | (with_reducible apply bel_drew) | (with_reducible apply bel_drewN) | (with_reducible refine bel_trans ?_ (by with_reducible assumption)) | (with_reducible refine bel_trans ?_ (HF.out _)) | (with_reducible refine bel_set ?_ (by simp) _) | (with_reducible refine bel_set ?_ (by simp; omega) _) | (with_reducible refine bel_set ?_ (by omega) _)))
        have hB2 := HB.out.up hFn; have hC2 := HC1.out.up hFn; have ho2 := HO.out.up hFn
        have hsz2 : w.heap.size + 2 ≤ (F nq).heap.size := Nat.le_trans hsz hFn.size
        have hb3 : b2 < (F nq).heap.size := Nat.lt_of_lt_of_le hb2 hFn.size
        have hcm2 := (hFn.cell (p := ⟨b2, off2 + j, none⟩) hb2).trans hcm
        have hlenj : ((H.pa.take j).filter (lackB certs H.ro)).length ≤ j := Nat.le_trans (List.length_filter_le _ _) (by simp; omega)
        have HFT := Lib.hid (filter_take (p := lackB certs H.ro) H.pa j (by rw [HN.out]; exact hlt))
        rcases findS_cases certs (nth H.pa j) with ⟨e, _⟩ | ⟨i, hi, e, _⟩
        · rw [e]
          have hlk : lackB certs H.ro (nth H.pa j) = true := by simp [lackB, e]
          rw [hlk] at HFT
          have E := Lib.hid e; clear e
          refine wp_region_fam (by kernel_rfl) (by kernel_rfl) (fun ι F hne hF hcl => ?_)
          have HF := Lib.hid hF; clear hF
          have HC := Lib.hid hcl; clear hcl
          repeat (any_goals (first
           | go_big_quiet_step (first | (fail))
           | (refine wpQuiet_guard _ _ _ rfl rfl ?_; (fail_if_success (intro b' hb; have h2 := hb.symm; have : b' = true := h2.trans (by with_reducible rfl))); (fail_if_success (intro b' hb; have h2 := hb.symm; have : b' = false := h2.trans (by with_reducible rfl))); intro b' hb; simp only [hb]; cases b' <;> (try simp only [Bool.not_eq_true', Bool.not_eq_false', decide_eq_true_eq, decide_eq_false_iff_not, Int.not_lt, Int.not_le, Bool.and_eq_true, Bool.or_eq_true, Bool.or_eq_false_iff, beq_iff_eq, beq_eq_false_iff_ne, Int.natCast_pos] at hb))))
          all_goals (refine wpQuiet_nil ?_; intro nq)
          have hFn2 := HF.out nq
          have hbF2 : Below w.heap.size w (F nq) := bel_trans hbF hFn2
          have hB3 := hB2.up hFn2; have hC3 := hC2.up hFn2; have ho3 := ho2.up hFn2
          have bw_0 := (hB3).2 0 _ rfl; have bw_1 := (hB3).2 1 _ rfl; have bw_2 := (hB3).2 2 _ rfl
          have hw_0 := (hC3).2 0 _ rfl; have hw_1 := (hC3).2 1 _ rfl; have hw_2 := (hC3).2 2 _ rfl; have hw_3 := (hC3).2 3 _ rfl
          have hcm3 := (hFn2.cell (p := ⟨b2, off2 + j, none⟩) hb3).trans hcm2
          have hsz3 : w.heap.size + 2 ≤ (F nq).heap.size := Nat.le_trans hsz2 hFn2.size
          go_wp2_with (at_builtin; refine wpList_app1 rfl (.tmp 43) (.tmp 49) rfl (w.heap.size + 2) u5 _ rfl (ho3.alloc _) _ (nth H.pa j) rfl (cell0_alloc _ _ _) (by omega) (le_alloc (by omega)) ?_; intro v1 w1 hown1 hg1 hbel1 hat1)
          (first | (go_round; (case rel => exact ⟨j + 1, by omega, by go_num, (bel_alloc hbF2).trans (hbel1.mono (by omega)), Nat.le_trans hsz3 (Nat.le_trans (by simp) hbel1.size), (hB3.up (by (repeat (first | (with_reducible exact Below.refl _ _) | (with_reducible assumption) | (with_reducible apply bel_alloc) | (with_reducible apply bel_drew) | (with_reducible apply bel_drewN) | (with_reducible refine bel_trans ?_ (by with_reducible assumption)) | (with_reducible refine bel_trans ?_ (HF.out _)) | (with_reducible refine bel_set ?_ (by simp) _) | (with_reducible refine bel_set ?_ (by simp; omega) _) | (with_reducible refine bel_set ?_ (by omega) _))))).below hbel1 (by omega), (hC3.up (by (repeat (first | (with_reducible exact Below.refl _ _) | (with_reducible assumption) | (with_reducible apply bel_alloc) | (with_reducible apply bel_drew) | (with_reducible apply bel_drewN) | (with_reducible refine bel_trans ?_ (by with_reducible assumption)) | (with_reducible refine bel_trans ?_ (HF.out _)) | (with_reducible refine bel_set ?_ (by simp) _) | (with_reducible refine bel_set ?_ (by simp; omega) _) | (with_reducible refine bel_set ?_ (by omega) _))))).below hbel1 (by omega), by rw [HFT.out]; exact hown1⟩); (case measure => (simp [intOf] <;> omega))) | (go_roundw; (case rel => exact ⟨j + 1, by omega, by go_num, (bel_alloc hbF2).trans (hbel1.mono (by omega)), Nat.le_trans hsz3 (Nat.le_trans (by simp) hbel1.size), (hB3.up (by (repeat (first | (with_reducible exact Below.refl _ _) | (with_reducible assumption) | (with_reducible apply bel_alloc) | (with_reducible apply bel_drew) | (with_reducible apply bel_drewN) | (with_reducible refine bel_trans ?_ (by with_reducible assumption)) | (with_reducible refine bel_trans ?_ (HF.out _)) | (with_reducible refine bel_set ?_ (by simp) _) | (with_reducible refine bel_set ?_ (by simp; omega) _) | (with_reducible refine bel_set ?_ (by omega) _))))).below hbel1 (by omega), (hC3.up (by (repeat (first | (with_reducible exact Below.refl _ _) | (with_reducible assumption) | (with_reducible apply bel_alloc) | (with_reducible apply bel_drew) | (with_reducible apply bel_drewN) | (with_reducible refine bel_trans ?_ (by with_reducible assumption)) | (with_reducible refine bel_trans ?_ (HF.out _)) | (with_reducible refine bel_set ?_ (by simp) _) | (with_reducible refine bel_set ?_ (by simp; omega) _) | (with_reducible refine bel_set ?_ (by omega) _))))).below hbel1 (by omega), by rw [HFT.out]; exact hown1⟩); (case measure => (simp [intOf] <;> omega))) | (refine ⟨?_, by simp [intOf] <;> omega⟩; (repeat apply Exists.intro); refine ⟨?rel, ?fr⟩; (case fr => ((repeat' apply And.intro) <;> rfl)); (case rel => exact ⟨j + 1, by omega, by go_num, (bel_alloc hbF2).trans (hbel1.mono (by omega)), Nat.le_trans hsz3 (Nat.le_trans (by simp) hbel1.size), (hB3.up (by (repeat (first | (with_reducible exact Below.refl _ _) | (with_reducible assumption) | (with_reducible apply bel_alloc) | (with_reducible apply bel_drew) | (with_reducible apply bel_drewN) | (with_reducible refine bel_trans ?_ (by with_reducible assumption)) | (with_reducible refine bel_trans ?_ (HF.out _)) | (with_reducible refine bel_set ?_ (by simp) _) | (with_reducible refine bel_set ?_ (by simp; omega) _) | (with_reducible refine bel_set ?_ (by omega) _))))).below hbel1 (by omega), (hC3.up (by (repeat (first | (with_reducible exact Below.refl _ _) | (with_reducible assumption) | (with_reducible apply bel_alloc) | (with_reducible apply bel_drew) | (with_reducible apply bel_drewN) | (with_reducible refine bel_trans ?_ (by with_reducible assumption)) | (with_reducible refine bel_trans ?_ (HF.out _)) | (with_reducible refine bel_set ?_ (by simp) _) | (with_reducible refine bel_set ?_ (by simp; omega) _) | (with_reducible refine bel_set ?_ (by omega) _))))).below hbel1 (by omega), by rw [HFT.out]; exact hown1⟩)))
        · rw [e]
          obtain ⟨b4, off4, rfl, hb4, hc4⟩ := HL.out.2.2 (by have := HL.out.1; omega)
          obtain ⟨pp, hat, _⟩ := hc4 i (by have := HL.out.1; omega)
          have q1 := ((hat.up hbF hb4)).2.1
          have hb5 : b4 < (F nq).heap.size := Nat.lt_of_lt_of_le hb4 hbF.size
          have hin : i < n := by have := HL.out.1; omega
          clear hat hc4
          have hlk : lackB certs H.ro (nth H.pa j) = decide ((cth certs i).h.ro ≠ H.ro - 1) := by simp [lackB, e]; omega
          rw [hlk] at HFT
          have E := Lib.hid e; clear e
          have hi0 : decide ((i : Int) < 0) = false := by simp
          refine wp_region_fam (by kernel_rfl) (by kernel_rfl) (fun ι F hne hF hcl => ?_)
          have hcF0 := fun n o => (bcell (hF n)).1 (b4) o (by first | (simp; done) | (simp; omega) | omega)
          have byF := fun n => (hB2).up (w' := F n) (by (repeat (first | (with_reducible exact Below.refl _ _) | (with_reducible assumption) | (with_reducible apply bel_alloc) | (with_reducible apply bel_drew) | (with_reducible apply bel_drewN) | (with_reducible refine bel_trans ?_ (by with_reducible assumption)) | (with_reducible refine bel_trans ?_ (hF _)) | (with_reducible refine bel_set ?_ (by simp) _) | (with_reducible refine bel_set ?_ (by simp; omega) _) | (with_reducible refine bel_set ?_ (by omega) _))))
          have byF_0 := fun n => (byF n).2 0 _ rfl
          have byF_1 := fun n => (byF n).2 1 _ rfl
          have byF_2 := fun n => (byF n).2 2 _ rfl
          clear byF
          have hyF := fun n => (hC2).up (w' := F n) (by (repeat (first | (with_reducible exact Below.refl _ _) | (with_reducible assumption) | (with_reducible apply bel_alloc) | (with_reducible apply bel_drew) | (with_reducible apply bel_drewN) | (with_reducible refine bel_trans ?_ (by with_reducible assumption)) | (with_reducible refine bel_trans ?_ (hF _)) | (with_reducible refine bel_set ?_ (by simp) _) | (with_reducible refine bel_set ?_ (by simp; omega) _) | (with_reducible refine bel_set ?_ (by omega) _))))
          have hyF_0 := fun n => (hyF n).2 0 _ rfl
          have hyF_1 := fun n => (hyF n).2 1 _ rfl
          have hyF_2 := fun n => (hyF n).2 2 _ rfl
          have hyF_3 := fun n => (hyF n).2 3 _ rfl
          clear hyF
          have HF := Lib.hid hF; clear hF
          have HC := Lib.hid hcl; clear hcl
          repeat (any_goals (first
           | go_big_quiet_step (first | (fail))
           | (refine wpQuiet_guard _ _ _ rfl rfl ?_; (fail_if_success (intro b' hb; have h2 := hb.symm; have : b' = true := h2.trans (by with_reducible rfl))); (fail_if_success (intro b' hb; have h2 := hb.symm; have : b' = false := h2.trans (by with_reducible rfl))); intro b' hb; simp only [hb]; cases b' <;> (try simp only [Bool.not_eq_true', Bool.not_eq_false', decide_eq_true_eq, decide_eq_false_iff_not, Int.not_lt, Int.not_le, Bool.and_eq_true, Bool.or_eq_true, Bool.or_eq_false_iff, beq_iff_eq, beq_eq_false_iff_ne, Int.natCast_pos] at hb))))
          all_goals (refine wpQuiet_nil ?_; intro nq)
          have hFn2 := HF.out nq
          have hbF2 : Below w.heap.size w (F nq) := bel_trans hbF hFn2
          have hB3 := hB2.up hFn2; have hC3 := hC2.up hFn2; have ho3 := ho2.up hFn2
          have bw_0 := (hB3).2 0 _ rfl; have bw_1 := (hB3).2 1 _ rfl; have bw_2 := (hB3).2 2 _ rfl
          have hw_0 := (hC3).2 0 _ rfl; have hw_1 := (hC3).2 1 _ rfl; have hw_2 := (hC3).2 2 _ rfl; have hw_3 := (hC3).2 3 _ rfl
          have hcm3 := (hFn2.cell (p := ⟨b2, off2 + j, none⟩) hb3).trans hcm2
          have hsz3 : w.heap.size + 2 ≤ (F nq).heap.size := Nat.le_trans hsz2 hFn2.size
          by_cases hq : (cth certs i).h.ro = H.ro - 1
          · have hq1 : ((cth certs i).h.ro != H.ro - 1) = false := by simp [hq]
            have HQ := Lib.hid hq; clear hq
            go_wp2_with fail
            (first | (go_round; (case rel => exact ⟨j + 1, by omega, by go_num, hbF2, hsz3, hB3, hC3, by rw [HFT.out, if_neg (by simp [HQ.out]), List.append_nil]; exact ho3⟩); (case measure => (simp [intOf] <;> omega))) | (go_roundw; (case rel => exact ⟨j + 1, by omega, by go_num, hbF2, hsz3, hB3, hC3, by rw [HFT.out, if_neg (by simp [HQ.out]), List.append_nil]; exact ho3⟩); (case measure => (simp [intOf] <;> omega))) | (refine ⟨?_, by simp [intOf] <;> omega⟩; (repeat apply Exists.intro); refine ⟨?rel, ?fr⟩; (case fr => ((repeat' apply And.intro) <;> rfl)); (case rel => exact ⟨j + 1, by omega, by go_num, hbF2, hsz3, hB3, hC3, by rw [HFT.out, if_neg (by simp [HQ.out]), List.append_nil]; exact ho3⟩)))
          · have hq1 : ((cth certs i).h.ro != H.ro - 1) = true := by simp [hq]
            have HQ := Lib.hid hq; clear hq
            go_wp2_with (at_builtin; refine wpList_app1 rfl (.tmp 43) (.tmp 49) rfl (w.heap.size + 2) u5 _ rfl (ho3.alloc _) _ (nth H.pa j) rfl (cell0_alloc _ _ _) (by omega) (le_alloc (by omega)) ?_; intro v1 w1 hown1 hg1 hbel1 hat1)
            (first | (go_round; (case rel => exact ⟨j + 1, by omega, by go_num, (bel_alloc hbF2).trans (hbel1.mono (by omega)), Nat.le_trans hsz3 (Nat.le_trans (by simp) hbel1.size), (hB3.up (by (repeat (first | (with_reducible exact Below.refl _ _) | (with_reducible assumption) | (with_reducible apply bel_alloc) | (with_reducible apply bel_drew) | (with_reducible apply bel_drewN) | (with_reducible refine bel_trans ?_ (by with_reducible assumption)) | (with_reducible refine bel_trans ?_ (HF.out _)) | (with_reducible refine bel_set ?_ (by simp) _) | (with_reducible refine bel_set ?_ (by simp; omega) _) | (with_reducible refine bel_set ?_ (by omega) _))))).below hbel1 (by omega), (hC3.up (by (repeat (first | (with_reducible exact Below.refl _ _) | (with_reducible assumption) | (with_reducible apply bel_alloc) | (with_reducible apply bel_drew) | (with_reducible apply bel_drewN) | (with_reducible refine bel_trans ?_ (by with_reducible assumption)) | (with_reducible refine bel_trans ?_ (HF.out _)) | (with_reducible refine bel_set ?_ (by simp) _) | (with_reducible refine bel_set ?_ (by simp; omega) _) | (with_reducible refine bel_set ?_ (by omega) _))))).below hbel1 (by omega), by rw [HFT.out, if_pos (by simp [HQ.out])]; exact hown1⟩); (case measure => (simp [intOf] <;> omega))) | (go_roundw; (case rel => exact ⟨j + 1, by omega, by go_num, (bel_alloc hbF2).trans (hbel1.mono (by omega)), Nat.le_trans hsz3 (Nat.le_trans (by simp) hbel1.size), (hB3.up (by (repeat (first | (with_reducible exact Below.refl _ _) | (with_reducible assumption) | (with_reducible apply bel_alloc) | (with_reducible apply bel_drew) | (with_reducible apply bel_drewN) | (with_reducible refine bel_trans ?_ (by with_reducible assumption)) | (with_reducible refine bel_trans ?_ (HF.out _)) | (with_reducible refine bel_set ?_ (by simp) _) | (with_reducible refine bel_set ?_ (by simp; omega) _) | (with_reducible refine bel_set ?_ (by omega) _))))).below hbel1 (by omega), (hC3.up (by (repeat (first | (with_reducible exact Below.refl _ _) | (with_reducible assumption) | (with_reducible apply bel_alloc) | (with_reducible apply bel_drew) | (with_reducible apply bel_drewN) | (with_reducible refine bel_trans ?_ (by with_reducible assumption)) | (with_reducible refine bel_trans ?_ (HF.out _)) | (with_reducible refine bel_set ?_ (by simp) _) | (with_reducible refine bel_set ?_ (by simp; omega) _) | (with_reducible refine bel_set ?_ (by omega) _))))).below hbel1 (by omega), by rw [HFT.out, if_pos (by simp [HQ.out])]; exact hown1⟩); (case measure => (simp [intOf] <;> omega))) | (refine ⟨?_, by simp [intOf] <;> omega⟩; (repeat apply Exists.intro); refine ⟨?rel, ?fr⟩; (case fr => ((repeat' apply And.intro) <;> rfl)); (case rel => exact ⟨j + 1, by omega, by go_num, (bel_alloc hbF2).trans (hbel1.mono (by omega)), Nat.le_trans hsz3 (Nat.le_trans (by simp) hbel1.size), (hB3.up (by (repeat (first | (with_reducible exact Below.refl _ _) | (with_reducible assumption) | (with_reducible apply bel_alloc) | (with_reducible apply bel_drew) | (with_reducible apply bel_drewN) | (with_reducible refine bel_trans ?_ (by with_reducible assumption)) | (with_reducible refine bel_trans ?_ (HF.out _)) | (with_reducible refine bel_set ?_ (by simp) _) | (with_reducible refine bel_set ?_ (by simp; omega) _) | (with_reducible refine bel_set ?_ (by omega) _))))).below hbel1 (by omega), (hC3.up (by (repeat (first | (with_reducible exact Below.refl _ _) | (with_reducible assumption) | (with_reducible apply bel_alloc) | (with_reducible apply bel_drew) | (with_reducible apply bel_drewN) | (with_reducible refine bel_trans ?_ (by with_reducible assumption)) | (with_reducible refine bel_trans ?_ (HF.out _)) | (with_reducible refine bel_set ?_ (by simp) _) | (with_reducible refine bel_set ?_ (by simp; omega) _) | (with_reducible refine bel_set ?_ (by omega) _))))).below hbel1 (by omega), by rw [HFT.out, if_pos (by simp [HQ.out])]; exact hown1⟩)))
      · go_wp2
        go_ret
        refine ⟨_, rfl, ?_, hbw⟩
        have e : H.pa.take j = H.pa := List.take_of_length_le (by rw [HN.out]; omega)
        unfold lacksS
        rw [if_neg (by omega), ← e]
        exact hown.mono (by omega)
end Go.Proofs.Ytfkbilbgndekkaa
