/- The reference's marks and Reach. -/
import Derived.Test.YtfkbilbgndekkaaJ
import Derived.Deep.OwnRows
namespace Go.Proofs.Ytfkbilbgndekkaa
open Go.RowKit
set_option linter.unusedSimpArgs false
set_option linter.unusedVariables false

theorem Blk.new' {g : Nat} {cs cs' : List Value} (w : World) (t : TypeId) (q : Unit) (hg : g = w.heap.size) (hc : cs' = cs) : Blk (w.alloc (.cells cs.toArray t)) g t cs' := by subst hg; subst hc; exact Blk.new w t _
def mb (n : Nat) (M : Nat → Bool) : List Value := (List.range n).map fun j => .bool (M j)
theorem mb_len (n : Nat) (M : Nat → Bool) : (mb n M).length = n := by simp [mb]
theorem mb_get {n : Nat} {M : Nat → Bool} {j : Nat} (h : j < n) : (mb n M)[j]? = some (.bool (M j)) := by simp [mb, h]
def Mset (M : Nat → Bool) (j : Nat) : Nat → Bool := fun i => M i || decide (i = j)
theorem mb_set {n : Nat} {M : Nat → Bool} {j : Nat} (h : j < n) : (mb n M).set j (.bool true) = mb n (Mset M j) := by
  apply List.ext_getElem?
  intro i
  by_cases hij : i = j
  · subst hij; simp [mb, Mset, h]
  · by_cases hi : i < n
    · simp [mb, Mset, hi, hij, List.getElem?_set, Ne.symm hij]
    · simp [mb, hi, List.getElem?_set, Ne.symm hij]
theorem mb_made (n : Nat) : madeCells #[.bool false] n = (mb n (fun _ => false)).toArray := by
  apply Array.ext'
  simp [madeCells, mb, Nat.mod_one]
theorem bool_info : (Try.prog.info? 4).map (fun i => (i.zero, i.size, i.bytes)) = some (some (.bool false), 1, 1) := by kernel_rfl

def Madd (certs : List CertD) (M : Nat → Bool) (l : List Int) : Nat → Bool := fun j => M j || decide (∃ y ∈ l, findS certs y = (j : Int))
theorem Madd_nil (certs : List CertD) (M : Nat → Bool) : Madd certs M [] = M := by funext j; simp [Madd]
theorem Madd_no (certs : List CertD) (M : Nat → Bool) (l : List Int) (y : Int) (h : findS certs y < 0) : Madd certs M (l ++ [y]) = Madd certs M l := by
  funext j; simp only [Madd]; congr 1; rw [Bool.eq_iff_iff]; simp only [decide_eq_true_eq, List.mem_append, List.mem_singleton]
  constructor
  · rintro ⟨x, hx | rfl, e⟩
    · exact ⟨x, hx, e⟩
    · omega
  · rintro ⟨x, hx, e⟩; exact ⟨x, .inl hx, e⟩
theorem Madd_yes (certs : List CertD) (M : Nat → Bool) (l : List Int) (y : Int) (i : Nat) (h : findS certs y = (i : Int)) : Madd certs M (l ++ [y]) = Mset (Madd certs M l) i := by
  funext j; simp only [Madd, Mset, Bool.or_assoc]; congr 1; rw [Bool.eq_iff_iff]; simp only [decide_eq_true_eq, Bool.or_eq_true, List.mem_append, List.mem_singleton]
  constructor
  · rintro ⟨x, hx | rfl, e⟩
    · exact .inl ⟨x, hx, e⟩
    · right; omega
  · rintro (⟨x, hx, e⟩ | rfl)
    · exact ⟨x, .inl hx, e⟩
    · exact ⟨y, .inr rfl, h⟩
def marksL (certs : List CertD) (dlow : Int) : Nat → (Nat → Bool) → (Nat → Bool)
  | 0, M => M
  | m + 1, M => if M m then marksL certs dlow m (if dlow + 1 < (cth certs m).h.ro then Madd certs M (cth certs m).h.pa else M) else marksL certs dlow m M
def marksS (certs : List CertD) (dlow : Int) (i : Nat) : Nat → Bool := marksL certs dlow (i + 1) (Mset (fun _ => false) i)
theorem marksL_no (certs : List CertD) (dlow : Int) (m : Nat) (M : Nat → Bool) (h : M m = false) : marksL certs dlow (m + 1) M = marksL certs dlow m M := by simp [marksL, h]
theorem marksL_yes (certs : List CertD) (dlow : Int) (m : Nat) (M : Nat → Bool) (h : M m = true) : marksL certs dlow (m + 1) M = marksL certs dlow m (if dlow + 1 < (cth certs m).h.ro then Madd certs M (cth certs m).h.pa else M) := by simp [marksL, h]

set_option maxRecDepth 100000 in
set_option maxHeartbeats 1000000 in
theorem ref14_marks (b off n c : Nat) (certs : List CertD) (nodes dlow : Int) (i : Nat) (w : World) (hl : CertsR w (some ⟨b, off, none⟩) n certs) (hi : i < n) (hn : n ≤ 65536)
    (hro : ∀ k, k < n → 1 ≤ (cth certs k).h.ro ∧ (cth certs k).h.ro ≤ 1099511627776) (hlo1 : -9223372036854775808 ≤ dlow) (hlo2 : dlow ≤ 1099511627776) :
    Calls Try.prog 69 #[.agg #[.int .i64 nodes, .int .i64 dlow, .slice (some ⟨b, off, none⟩) n c], .int .i64 i] w fun e w' => e = .returned (.slice (some ⟨w.heap.size + 1, 0, none⟩) n n) ∧ Blk w' (w.heap.size + 1) 4 (mb n (marksS certs dlow i)) ∧ Below w.heap.size w w' := by
  have HL := Lib.hid hl
  obtain ⟨h1, h2, h3⟩ := hl
  have H1 := Lib.hid h1; clear h1
  obtain ⟨b', off', e', hb, hc⟩ := h3 (by omega)
  injection e' with e'; injection e' with e1 e2 e3; subst e1; subst e2; clear e3 h3
  have HC0 := Lib.hid hc; clear hc
  have HRO := Lib.hid hro; clear hro
  have hmk : ∀ u : World, (Instr.makeSlice 93 (.int .i64 n) (.int .i64 n)).run Try.prog u = .ok (.slice (some ⟨u.heap.size, 0, none⟩) n n) (u.alloc (.cells (mb n (fun _ => false)).toArray 4)) := fun u => by
    rw [run_make_row' 93 4 (.bool false) 1 Try.underlying93 bool_info rfl .i64 .i64 n (by omega) (by omega) u, mb_made]
  go_enter Try.func69, Try.ntmps69
  have hm0 : (mb n (fun _ => false)).toArray[i]? = some (.bool false) := by simp [mb, hi]
  go_wp2_with fail
  go_loopw [6] (fun ix wr => ∃ (m : Nat) (M : Nat → Bool), m ≤ i + 1 ∧ ix = .int .i64 ((m : Int) - 1) ∧ Hid (marksL certs dlow m M = marksS certs dlow i) ∧ Below w.heap.size w wr ∧ w.heap.size + 2 ≤ wr.heap.size ∧
      BoxR wr w.heap.size [.int .i64 nodes, .int .i64 dlow, .slice (some ⟨b, off, none⟩) n c] ∧ Blk wr (w.heap.size + 1) 4 (mb n M)) (fun ix _ => (intOf ix + 1).toNat)
  case atStart => exact ⟨i + 1, Mset (fun _ => false) i, Nat.le_refl _, by go_num, rfl, by (repeat (first | (with_reducible exact Below.refl _ _) | (with_reducible assumption) | (with_reducible apply bel_alloc) | (with_reducible apply bel_drew) | (with_reducible apply bel_drewN) | (with_reducible refine bel_trans ?_ (by with_reducible assumption)) | (with_reducible refine bel_trans ?_ (HF.out _)) | (with_reducible refine bel_set ?_ (by simp) _) | (with_reducible refine bel_set ?_ (by simp; omega) _) | (with_reducible refine bel_set ?_ (by omega) _))), by simp, ((BoxR.new w [.int .i64 nodes, .int .i64 dlow, .slice (some ⟨b, off, none⟩) n c] 24).up (by (repeat (first | (with_reducible exact Below.refl _ _) | (with_reducible assumption) | (with_reducible apply bel_alloc) | (with_reducible apply bel_drew) | (with_reducible apply bel_drewN) | (with_reducible refine bel_trans ?_ (by with_reducible assumption)) | (with_reducible refine bel_trans ?_ (HF.out _)) | (with_reducible refine bel_set ?_ (by simp) _) | (with_reducible refine bel_set ?_ (by simp; omega) _) | (with_reducible refine bel_set ?_ (by omega) _))))), Blk.new' _ _ () (by simp) (by rw [← mb_set hi])⟩
  case round =>
    obtain ⟨m, M, hm, rfl, heq, hbw, hsz, hB, hK⟩ := hrel
    have b_0 := (hB).2 0 _ rfl; have b_1 := (hB).2 1 _ rfl; have b_2 := (hB).2 2 _ rfl
    rcases m with _ | k
    · go_wp2
      go_ret
      exact ⟨rfl, by rw [← heq.out]; exact hK, hbw⟩
    · have hkn : k < n := by omega
      have ek : ((k + 1 : Nat) : Int) - 1 = (k : Int) := by omega
      rw [ek]
      have hMk := hK.box.2 k _ (mb_get hkn)
      obtain ⟨p, hat, hcr⟩ := HC0.out k hkn
      have hbr : b < wr.heap.size := Nat.lt_of_lt_of_le hb hbw.size
      obtain ⟨c0, c1, c2, c3, c4, c5⟩ := hat.up hbw hb
      obtain ⟨⟨⟨bA, bn, bc⟩, ⟨pA, pn, pc⟩⟩, ⟨sA, sn, sc⟩⟩ := p
      dsimp only at c0 c1 c2 c3 c4 c5
      have HCR := Lib.hid hcr; clear hcr
      clear hat
      cases hMM : M k
      · rw [hMM] at hMk
        go_wp2_with fail
        (first | (go_round; (case rel => exact ⟨k, M, by omega, by go_num, by rw [← marksL_no _ _ _ _ hMM]; exact heq, hbw, hsz, hB, hK⟩); (case measure => (simp [intOf] <;> omega))) | (go_roundw; (case rel => exact ⟨k, M, by omega, by go_num, by rw [← marksL_no _ _ _ _ hMM]; exact heq, hbw, hsz, hB, hK⟩); (case measure => (simp [intOf] <;> omega))) | (refine ⟨?_, by simp [intOf] <;> omega⟩; (repeat apply Exists.intro); refine ⟨?rel, ?fr⟩; (case fr => ((repeat' apply And.intro) <;> rfl)); (case rel => exact ⟨k, M, by omega, by go_num, by rw [← marksL_no _ _ _ _ hMM]; exact heq, hbw, hsz, hB, hK⟩)))
      · rw [hMM] at hMk
        have hr1 := (HRO.out k hkn).1
        have hr2 := (HRO.out k hkn).2
        have hlt0 : w.heap.size < wr.heap.size := by omega
        go_wp2_with fail
        have hlen : (cth certs k).h.pa.length = pn := HCR.out.1.2.1
        have HN := Lib.hid hlen; clear hlen
        have hpnb : pn ≤ 9223372036854775807 := HCR.out.1.2.2.1
        have hwr1 : IntKind.i64.wrap ((cth certs k).h.ro - 1) = (cth certs k).h.ro - 1 := IntWalk.i64_in _ (by omega)
        obtain ⟨g1, hg1⟩ : ∃ g, g = wr.heap.size := ⟨_, rfl⟩
        have HG1 := Lib.hid hg1; clear hg1
        go_loopw [8] (fun ix wx => ∃ m : Nat, m ≤ pn ∧ ix = .int .i64 m ∧ (m = 0 ∨ dlow + 1 < (cth certs k).h.ro) ∧ Below w.heap.size w wx ∧ g1 + 1 ≤ wx.heap.size ∧
            BoxR wx w.heap.size [.int .i64 nodes, .int .i64 dlow, .slice (some ⟨b, off, none⟩) n c] ∧ Blk wx (w.heap.size + 1) 4 (mb n (Madd certs M ((cth certs k).h.pa.take m))) ∧
            BoxR wx g1 [.int .i64 (cth certs k).h.au, .int .i64 (cth certs k).h.ro, .slice bA bn bc, .slice pA pn pc]) (fun ix _ => pn - (intOf ix).toNat)
        case atStart => exact ⟨0, Nat.zero_le _, rfl, .inl rfl, by (repeat (first | (with_reducible exact Below.refl _ _) | (with_reducible assumption) | (with_reducible apply bel_alloc) | (with_reducible apply bel_drew) | (with_reducible apply bel_drewN) | (with_reducible refine bel_trans ?_ (by with_reducible assumption)) | (with_reducible refine bel_trans ?_ (HF.out _)) | (with_reducible refine bel_set ?_ (by simp) _) | (with_reducible refine bel_set ?_ (by simp; omega) _) | (with_reducible refine bel_set ?_ (by omega) _))), by have := HG1.out; simp; omega, hB.up (by (repeat (first | (with_reducible exact Below.refl _ _) | (with_reducible assumption) | (with_reducible apply bel_alloc) | (with_reducible apply bel_drew) | (with_reducible apply bel_drewN) | (with_reducible refine bel_trans ?_ (by with_reducible assumption)) | (with_reducible refine bel_trans ?_ (HF.out _)) | (with_reducible refine bel_set ?_ (by simp) _) | (with_reducible refine bel_set ?_ (by simp; omega) _) | (with_reducible refine bel_set ?_ (by omega) _)))), by rw [List.take_zero, Madd_nil]; exact hK.up (by (repeat (first | (with_reducible exact Below.refl _ _) | (with_reducible assumption) | (with_reducible apply bel_alloc) | (with_reducible apply bel_drew) | (with_reducible apply bel_drewN) | (with_reducible refine bel_trans ?_ (by with_reducible assumption)) | (with_reducible refine bel_trans ?_ (HF.out _)) | (with_reducible refine bel_set ?_ (by simp) _) | (with_reducible refine bel_set ?_ (by simp; omega) _) | (with_reducible refine bel_set ?_ (by omega) _)))), BoxR.new' _ [.int .i64 (cth certs k).h.au, .int .i64 (cth certs k).h.ro, .slice bA bn bc, .slice pA pn pc] 46 HG1.out⟩
        case round =>
          clear hMk b_0 b_1 b_2 c0 c1 c2 c3 c4 c5
          obtain ⟨m, hm2, rfl, hml, hbx, hszx, hBx, hKx, hCx⟩ := hrel
          have hg1 := HG1.out; clear HG1; subst hg1
          have bx_0 := (hBx).2 0 _ rfl; have bx_1 := (hBx).2 1 _ rfl; have bx_2 := (hBx).2 2 _ rfl
          have cx_0 := (hCx).2 0 _ rfl; have cx_1 := (hCx).2 1 _ rfl; have cx_2 := (hCx).2 2 _ rfl; have cx_3 := (hCx).2 3 _ rfl
          by_cases hmp : m < pn
          · by_cases hlow : dlow + 1 < (cth certs k).h.ro
            · have hcond : ((cth certs k).h.ro - 1 > dlow) := by omega
              obtain ⟨b2, off2, rfl, hb2, hcc⟩ := (HCR.out.1.2.up hbx).2.2 (Nat.lt_of_le_of_lt (Nat.zero_le m) hmp)
              have hcm := hcc m hmp
              clear hcc
              have hbx2 : b2 < wr.heap.size := by assumption
              go_wp2_with fail
              refine wp_region_fam (by kernel_rfl) (by kernel_rfl) (fun ι F hne hF hcl => ?_)
              have hcF0 := fun n o => (bcell (hF n)).1 (b2) o (by first | (simp; done) | (simp; omega) | omega)
              have byF := fun n => (hBx).up (w' := F n) (by (repeat (first | (with_reducible exact Below.refl _ _) | (with_reducible assumption) | (with_reducible apply bel_alloc) | (with_reducible apply bel_drew) | (with_reducible apply bel_drewN) | (with_reducible refine bel_trans ?_ (by with_reducible assumption)) | (with_reducible refine bel_trans ?_ (hF _)) | (with_reducible refine bel_set ?_ (by simp) _) | (with_reducible refine bel_set ?_ (by simp; omega) _) | (with_reducible refine bel_set ?_ (by omega) _))))
              have byF_0 := fun n => (byF n).2 0 _ rfl
              have byF_1 := fun n => (byF n).2 1 _ rfl
              have byF_2 := fun n => (byF n).2 2 _ rfl
              clear byF
              have cyF := fun n => (hCx).up (w' := F n) (by (repeat (first | (with_reducible exact Below.refl _ _) | (with_reducible assumption) | (with_reducible apply bel_alloc) | (with_reducible apply bel_drew) | (with_reducible apply bel_drewN) | (with_reducible refine bel_trans ?_ (by with_reducible assumption)) | (with_reducible refine bel_trans ?_ (hF _)) | (with_reducible refine bel_set ?_ (by simp) _) | (with_reducible refine bel_set ?_ (by simp; omega) _) | (with_reducible refine bel_set ?_ (by omega) _))))
              have cyF_0 := fun n => (cyF n).2 0 _ rfl
              have cyF_1 := fun n => (cyF n).2 1 _ rfl
              have cyF_2 := fun n => (cyF n).2 2 _ rfl
              have cyF_3 := fun n => (cyF n).2 3 _ rfl
              clear cyF
              have HF := Lib.hid hF; clear hF
              have HC := Lib.hid hcl; clear hcl
              repeat (any_goals (first
               | go_big_quiet_step (first | (go_at_call 18; exact Calls.fam HC.out (ref14_Find _ _ _ certs _ _ _ _ (HL.out.up (by (repeat (first | (with_reducible exact Below.refl _ _) | (with_reducible assumption) | (with_reducible apply bel_alloc) | (with_reducible apply bel_drew) | (with_reducible apply bel_drewN) | (with_reducible refine bel_trans ?_ (by with_reducible assumption)) | (with_reducible refine bel_trans ?_ (HF.out _)) | (with_reducible refine bel_set ?_ (by simp) _) | (with_reducible refine bel_set ?_ (by simp; omega) _) | (with_reducible refine bel_set ?_ (by omega) _))))))))
               | (refine wpQuiet_guard _ _ _ rfl rfl ?_; (fail_if_success (intro b' hb; have h2 := hb.symm; have : b' = true := h2.trans (by with_reducible rfl))); (fail_if_success (intro b' hb; have h2 := hb.symm; have : b' = false := h2.trans (by with_reducible rfl))); intro b' hb; simp only [hb]; cases b' <;> (try simp only [Bool.not_eq_true', Bool.not_eq_false', decide_eq_true_eq, decide_eq_false_iff_not, Int.not_lt, Int.not_le, Bool.and_eq_true, Bool.or_eq_true, Bool.or_eq_false_iff, beq_iff_eq, beq_eq_false_iff_ne, Int.natCast_pos] at hb))))
              all_goals (refine wpQuiet_nil ?_; intro nq)
              have hFn := HF.out nq
              have hbF : Below w.heap.size w (F nq) := bel_trans hbx hFn
              have hBz := hBx.up hFn; have hCz := hCx.up hFn; have hKz := hKx.up hFn
              have hszz : w.heap.size + 2 ≤ (F nq).heap.size := by have := hFn.size; omega
              have hszy : _ + 1 ≤ (F nq).heap.size := Nat.le_trans hszx hFn.size
              have htk : (cth certs k).h.pa.take (m + 1) = (cth certs k).h.pa.take m ++ [nth (cth certs k).h.pa m] := take_nth _ _ (by rw [HN.out]; exact hmp)
              have HTK := Lib.hid htk; clear htk
              rcases findS_cases certs (nth (cth certs k).h.pa m) with ⟨e, _⟩ | ⟨j, hj, e, _⟩
              · rw [e]
                have hneg : decide ((-1 : Int) ≥ 0) = false := by decide
                go_wp2_with fail
                (first | (go_round; (case rel => exact ⟨m + 1, by omega, by go_num, .inr hlow, hbF, hszy, hBz, by rw [HTK.out, Madd_no _ _ _ _ (by omega)]; exact hKz, hCz⟩); (case measure => (simp [intOf] <;> omega))) | (go_roundw; (case rel => exact ⟨m + 1, by omega, by go_num, .inr hlow, hbF, hszy, hBz, by rw [HTK.out, Madd_no _ _ _ _ (by omega)]; exact hKz, hCz⟩); (case measure => (simp [intOf] <;> omega))) | (refine ⟨?_, by simp [intOf] <;> omega⟩; (repeat apply Exists.intro); refine ⟨?rel, ?fr⟩; (case fr => ((repeat' apply And.intro) <;> rfl)); (case rel => exact ⟨m + 1, by omega, by go_num, .inr hlow, hbF, hszy, hBz, by rw [HTK.out, Madd_no _ _ _ _ (by omega)]; exact hKz, hCz⟩)))
              · rw [e]
                have hjn : j < n := by rw [← H1.out]; exact hj
                have hMj := hKz.box.2 j _ (mb_get hjn)
                have hfr := hKz.frozen j
                go_wp2_with fail
                (first | (go_round; (case rel => exact ⟨m + 1, by omega, by go_num, .inr hlow, by (repeat (first | (with_reducible exact Below.refl _ _) | (with_reducible assumption) | (with_reducible apply bel_alloc) | (with_reducible apply bel_drew) | (with_reducible apply bel_drewN) | (with_reducible refine bel_trans ?_ (by with_reducible assumption)) | (with_reducible refine bel_trans ?_ (HF.out _)) | (with_reducible refine bel_set ?_ (by simp) _) | (with_reducible refine bel_set ?_ (by simp; omega) _) | (with_reducible refine bel_set ?_ (by omega) _))), by simpa using hszy, hBz.set (by simp), by rw [HTK.out, Madd_yes _ _ _ _ j e, ← mb_set hjn]; exact hKz.set_ _ _, hCz.set (by simp; omega)⟩); (case measure => (simp [intOf] <;> omega))) | (go_roundw; (case rel => exact ⟨m + 1, by omega, by go_num, .inr hlow, by (repeat (first | (with_reducible exact Below.refl _ _) | (with_reducible assumption) | (with_reducible apply bel_alloc) | (with_reducible apply bel_drew) | (with_reducible apply bel_drewN) | (with_reducible refine bel_trans ?_ (by with_reducible assumption)) | (with_reducible refine bel_trans ?_ (HF.out _)) | (with_reducible refine bel_set ?_ (by simp) _) | (with_reducible refine bel_set ?_ (by simp; omega) _) | (with_reducible refine bel_set ?_ (by omega) _))), by simpa using hszy, hBz.set (by simp), by rw [HTK.out, Madd_yes _ _ _ _ j e, ← mb_set hjn]; exact hKz.set_ _ _, hCz.set (by simp; omega)⟩); (case measure => (simp [intOf] <;> omega))) | (refine ⟨?_, by simp [intOf] <;> omega⟩; (repeat apply Exists.intro); refine ⟨?rel, ?fr⟩; (case fr => ((repeat' apply And.intro) <;> rfl)); (case rel => exact ⟨m + 1, by omega, by go_num, .inr hlow, by (repeat (first | (with_reducible exact Below.refl _ _) | (with_reducible assumption) | (with_reducible apply bel_alloc) | (with_reducible apply bel_drew) | (with_reducible apply bel_drewN) | (with_reducible refine bel_trans ?_ (by with_reducible assumption)) | (with_reducible refine bel_trans ?_ (HF.out _)) | (with_reducible refine bel_set ?_ (by simp) _) | (with_reducible refine bel_set ?_ (by simp; omega) _) | (with_reducible refine bel_set ?_ (by omega) _))), by simpa using hszy, hBz.set (by simp), by rw [HTK.out, Madd_yes _ _ _ _ j e, ← mb_set hjn]; exact hKz.set_ _ _, hCz.set (by simp; omega)⟩)))
            · have hm0' : m = 0 := by omega
              subst hm0'
              go_wp2_with fail
              (first | (go_round; (case rel => exact ⟨k, M, by omega, by go_num, by (have q := heq.out; rw [marksL_yes _ _ _ _ hMM, if_neg hlow] at q; exact q), hbx, by omega, hBx, by (rw [List.take_zero, Madd_nil] at hKx; exact hKx)⟩); (case measure => (simp [intOf] <;> omega))) | (go_roundw; (case rel => exact ⟨k, M, by omega, by go_num, by (have q := heq.out; rw [marksL_yes _ _ _ _ hMM, if_neg hlow] at q; exact q), hbx, by omega, hBx, by (rw [List.take_zero, Madd_nil] at hKx; exact hKx)⟩); (case measure => (simp [intOf] <;> omega))) | (refine ⟨?_, by simp [intOf] <;> omega⟩; (repeat apply Exists.intro); refine ⟨?rel, ?fr⟩; (case fr => ((repeat' apply And.intro) <;> rfl)); (case rel => exact ⟨k, M, by omega, by go_num, by (have q := heq.out; rw [marksL_yes _ _ _ _ hMM, if_neg hlow] at q; exact q), hbx, by omega, hBx, by (rw [List.take_zero, Madd_nil] at hKx; exact hKx)⟩)))
          · have hmm : m = pn := by omega
            subst hmm
            have htk : (cth certs k).h.pa.take m = (cth certs k).h.pa := List.take_of_length_le (by rw [HN.out]; exact Nat.le_refl _)
            have HTK := Lib.hid htk; clear htk
            go_wp2_with fail
            (first | (go_round; (case rel => exact ⟨k, if dlow + 1 < (cth certs k).h.ro then Madd certs M (cth certs k).h.pa else M, by omega, by go_num, by (have q := heq.out; rw [marksL_yes _ _ _ _ hMM] at q; exact q), hbx, by omega, hBx, by (rcases hml with h0 | h0; (by_cases hq : dlow + 1 < (cth certs k).h.ro; (rw [if_pos hq, ← HTK.out]; exact hKx); (rw [if_neg hq]; rw [h0, List.take_zero, Madd_nil] at hKx; exact hKx)); (rw [if_pos h0, ← HTK.out]; exact hKx))⟩); (case measure => (simp [intOf] <;> omega))) | (go_roundw; (case rel => exact ⟨k, if dlow + 1 < (cth certs k).h.ro then Madd certs M (cth certs k).h.pa else M, by omega, by go_num, by (have q := heq.out; rw [marksL_yes _ _ _ _ hMM] at q; exact q), hbx, by omega, hBx, by (rcases hml with h0 | h0; (by_cases hq : dlow + 1 < (cth certs k).h.ro; (rw [if_pos hq, ← HTK.out]; exact hKx); (rw [if_neg hq]; rw [h0, List.take_zero, Madd_nil] at hKx; exact hKx)); (rw [if_pos h0, ← HTK.out]; exact hKx))⟩); (case measure => (simp [intOf] <;> omega))) | (refine ⟨?_, by simp [intOf] <;> omega⟩; (repeat apply Exists.intro); refine ⟨?rel, ?fr⟩; (case fr => ((repeat' apply And.intro) <;> rfl)); (case rel => exact ⟨k, if dlow + 1 < (cth certs k).h.ro then Madd certs M (cth certs k).h.pa else M, by omega, by go_num, by (have q := heq.out; rw [marksL_yes _ _ _ _ hMM] at q; exact q), hbx, by omega, hBx, by (rcases hml with h0 | h0; (by_cases hq : dlow + 1 < (cth certs k).h.ro; (rw [if_pos hq, ← HTK.out]; exact hKx); (rw [if_neg hq]; rw [h0, List.take_zero, Madd_nil] at hKx; exact hKx)); (rw [if_pos h0, ← HTK.out]; exact hKx))⟩)))
theorem ref14_marks' (A : Option Addr) (n c : Nat) (certs : List CertD) (nodes dlow : Int) (x : Int) (i : Nat) (hx : x = (i : Int)) (w : World) (hl : CertsR w A n certs) (hi : i < n) (hn : n ≤ 65536)
    (hro : ∀ k, k < n → 1 ≤ (cth certs k).h.ro ∧ (cth certs k).h.ro ≤ 1099511627776) (hlo1 : -9223372036854775808 ≤ dlow) (hlo2 : dlow ≤ 1099511627776) :
    Calls Try.prog 69 #[.agg #[.int .i64 nodes, .int .i64 dlow, .slice A n c], .int .i64 x] w fun e w' => ∃ g, e = .returned (.slice (some ⟨g, 0, none⟩) n n) ∧ w.heap.size ≤ g ∧ Blk w' g 4 (mb n (marksS certs dlow i)) ∧ Below w.heap.size w w' := by
  subst hx
  obtain ⟨b, off, rfl, _, _⟩ := hl.2.2 (by omega)
  refine (ref14_marks b off n c certs nodes dlow i w hl hi hn hro hlo1 hlo2).mono ?_
  rintro e w' ⟨rfl, h1, h2⟩
  exact ⟨_, rfl, by omega, h1, h2⟩
end Go.Proofs.Ytfkbilbgndekkaa
