/- Digests among certificates; parents that are not there, at the program. -/
import Derived.Test.YtfkbilbgndekkaaKb
import Derived.Test.YtfkbilbgndekkaaKp
namespace Go.Proofs.Ytfkbilbgndekkaa
open Go.RowKit
set_option linter.unusedSimpArgs false
set_option linter.unusedVariables false

set_option maxRecDepth 100000 in
set_option maxHeartbeats 1000000 in
theorem dag_has1 (p : CertP) (C : CertD) (g : Nat) (x : Int) (w : World) (hg : w.cell? ⟨g, 0, none⟩ = some (.int .i64 x)) (hgl : g < w.heap.size) :
    Calls Try.prog 137 #[.agg #[.int .i64 C.h.au, .int .i64 C.h.ro, .slice p.h.b.A p.h.b.n p.h.b.c, .slice p.h.p.A p.h.p.n p.h.p.c, .int .i64 C.di, .slice p.s.A p.s.n p.s.c], .pointer (some ⟨g, 0, none⟩)] w fun e w' => e = .returned (.bool (C.di == x)) ∧ Below w.heap.size w w' := by
  go_enter Try.func137, Try.ntmps137
  go_wp2
  go_ret
  exact ⟨rfl, by (repeat (first | (with_reducible exact Below.refl _ _) | (with_reducible assumption) | (with_reducible apply bel_alloc) | (with_reducible apply bel_drew) | (with_reducible apply bel_drewN) | (with_reducible refine bel_trans ?_ (by with_reducible assumption)) | (with_reducible refine bel_trans ?_ (HF.out _)) | (with_reducible refine bel_set ?_ (by simp) _) | (with_reducible refine bel_set ?_ (by simp; omega) _) | (with_reducible refine bel_set ?_ (by omega) _)))⟩
set_option maxRecDepth 100000 in
set_option maxHeartbeats 1000000 in
theorem slices_IndexFunc_has (A : Option Addr) (n c : Nat) (l : List CertD) (g : Nat) (x : Int) (w : World) (hl : CertsR w A n l) (hg : w.cell? ⟨g, 0, none⟩ = some (.int .i64 x)) (hgl : g < w.heap.size) :
    Calls Try.prog 103 #[.slice A n c, .func (.func 137) #[] #[.pointer (some ⟨g, 0, none⟩)]] w fun e w' => e = .returned (.int .i64 (findS l x)) ∧ Below w.heap.size w w' := by
  obtain ⟨h1, h2, h3⟩ := hl
  have H1 := Lib.hid h1; clear h1
  have H3 := Lib.hid h3; clear h3
  go_enter Try.func103, Try.ntmps103
  go_wp2
  go_loopw [8] (fun i wr => ∃ k : Nat, k ≤ n ∧ i = .int .i64 k ∧ Hid (findS l x = findF x k (l.drop k)) ∧ Below w.heap.size w wr) (fun i _ => n - (intOf i).toNat)
  case atStart => exact ⟨0, Nat.zero_le _, rfl, rfl, Below.refl _ _⟩
  case round =>
    obtain ⟨k, hk, rfl, hr, hbw⟩ := hrel
    by_cases hlt : k < n
    · obtain ⟨b, off, rfl, hb, hc⟩ := H3.out (by omega)
      obtain ⟨p, hat, _⟩ := hc k hlt
      obtain ⟨c0, c1, c2, c3, c4, c5⟩ := hat.up hbw hb
      have hg' := (hbw.cell (p := ⟨g, 0, none⟩) hgl).trans hg
      have hgl' : g < wr.heap.size := Nat.lt_of_lt_of_le hgl hbw.size
      clear hc hat
      have HS := Lib.hid (findF_step x l k (by rw [H1.out]; exact hlt))
      go_wp2_with (go_at_call 137; refine (dag_has1 _ _ _ _ _ hg' hgl').mono ?_; rintro e w1 ⟨rfl, hb1⟩)
      all_goals first
        | (go_roundw
           case rel => exact ⟨k + 1, by omega, by go_num, by have e := hr.out; rw [HS.out, if_neg (by simpa using ‹((cth l k).di == x) = false›)] at e; exact e, by (repeat (first | (with_reducible exact Below.refl _ _) | (with_reducible assumption) | (with_reducible apply bel_alloc) | (with_reducible apply bel_drew) | (with_reducible apply bel_drewN) | (with_reducible refine bel_trans ?_ (by with_reducible assumption)) | (with_reducible refine bel_trans ?_ (HF.out _)) | (with_reducible refine bel_set ?_ (by simp) _) | (with_reducible refine bel_set ?_ (by simp; omega) _) | (with_reducible refine bel_set ?_ (by omega) _)))⟩
           case measure => simp [intOf]; omega)
        | (go_ret; exact ⟨ret_int (by rw [hr.out, HS.out, if_pos (by simpa using ‹((cth l k).di == x) = true›)]), by (repeat (first | (with_reducible exact Below.refl _ _) | (with_reducible assumption) | (with_reducible apply bel_alloc) | (with_reducible apply bel_drew) | (with_reducible apply bel_drewN) | (with_reducible refine bel_trans ?_ (by with_reducible assumption)) | (with_reducible refine bel_trans ?_ (HF.out _)) | (with_reducible refine bel_set ?_ (by simp) _) | (with_reducible refine bel_set ?_ (by simp; omega) _) | (with_reducible refine bel_set ?_ (by omega) _)))⟩)
    · go_wp2
      go_ret
      exact ⟨ret_int (by rw [hr.out, List.drop_of_length_le (by rw [H1.out]; omega)]; rfl), by (repeat (first | (with_reducible exact Below.refl _ _) | (with_reducible assumption) | (with_reducible apply bel_alloc) | (with_reducible apply bel_drew) | (with_reducible apply bel_drewN) | (with_reducible refine bel_trans ?_ (by with_reducible assumption)) | (with_reducible refine bel_trans ?_ (HF.out _)) | (with_reducible refine bel_set ?_ (by simp) _) | (with_reducible refine bel_set ?_ (by simp; omega) _) | (with_reducible refine bel_set ?_ (by omega) _)))⟩
def hasC (l : List CertD) (x : Int) : Bool := decide (0 ≤ findS l x)
set_option maxRecDepth 100000 in
set_option maxHeartbeats 1000000 in
theorem slices_ContainsFunc (A : Option Addr) (n c : Nat) (l : List CertD) (g : Nat) (x : Int) (y : Bool) (w : World) (hl : CertsR w A n l) (hg : w.cell? ⟨g, 0, none⟩ = some (.int .i64 x)) (hgl : g < w.heap.size) (hy : hasC l x = y) :
    Calls Try.prog 136 #[.slice A n c, .func (.func 137) #[] #[.pointer (some ⟨g, 0, none⟩)]] w fun e w' => e = .returned (.bool y) ∧ Below w.heap.size w w' := by
  go_enter Try.func136, Try.ntmps136
  go_wp2_with (go_at_call 103; refine (slices_IndexFunc_has _ _ _ l g x _ hl hg hgl).mono ?_; rintro e w1 ⟨rfl, hb1⟩)
  go_ret
  exact ⟨ret_bool hy, hb1⟩
set_option maxRecDepth 100000 in
set_option maxHeartbeats 1000000 in
theorem dag_has (A : Option Addr) (n c : Nat) (l : List CertD) (x : Int) (y : Bool) (w : World) (hl : CertsR w A n l) (hy : hasC l x = y) :
    Calls Try.prog 120 #[.slice A n c, .int .i64 x] w fun e w' => e = .returned (.bool y) ∧ Below w.heap.size w w' := by
  go_enter Try.func120, Try.ntmps120
  go_wp2_with (go_at_call 136; refine (slices_ContainsFunc _ _ _ l _ x y _ (hl.up (by (repeat (first | (with_reducible exact Below.refl _ _) | (with_reducible assumption) | (with_reducible apply bel_alloc) | (with_reducible apply bel_drew) | (with_reducible apply bel_drewN) | (with_reducible refine bel_trans ?_ (by with_reducible assumption)) | (with_reducible refine bel_trans ?_ (HF.out _)) | (with_reducible refine bel_set ?_ (by simp) _) | (with_reducible refine bel_set ?_ (by simp; omega) _) | (with_reducible refine bel_set ?_ (by omega) _))))) (by simp) (by simp) hy).mono ?_; rintro e w1 ⟨rfl, hb1⟩)
  go_ret
  exact ⟨rfl, by (repeat (first | (with_reducible exact Below.refl _ _) | (with_reducible assumption) | (with_reducible apply bel_alloc) | (with_reducible apply bel_drew) | (with_reducible apply bel_drewN) | (with_reducible refine bel_trans ?_ (by with_reducible assumption)) | (with_reducible refine bel_trans ?_ (HF.out _)) | (with_reducible refine bel_set ?_ (by simp) _) | (with_reducible refine bel_set ?_ (by simp; omega) _) | (with_reducible refine bel_set ?_ (by omega) _)))⟩
theorem lackP_len (l : List CertD) (low : Int) (H : HeaderD) : (lackP l low H).length ≤ H.pa.length := by
  unfold lackP; split
  · simp
  · exact List.length_filter_le _ _
set_option maxRecDepth 100000 in
set_option maxHeartbeats 2000000 in
theorem dag_Lack (A : Option Addr) (n c : Nat) (l : List CertD) (nodes low : Int) (bA pA : Option Addr) (bn bc pn pc : Nat) (H : HeaderD) (w : World) (hl : CertsR w A n l) (hh : HeaderR w ⟨⟨bA, bn, bc⟩, ⟨pA, pn, pc⟩⟩ H) (hP : Places l) (hA : Auths l) (hn : n ≤ 65536) (hcap : n ≤ c) (hcb : c ≤ 9223372036854775807) (hp : pn ≤ 65536)
    (hr1 : 1 ≤ H.ro) (hr2 : H.ro ≤ 1099511627776) (hlow1 : 0 ≤ low) (hlow2 : low ≤ 1099511627776) :
    Calls Try.prog 91 #[.agg #[.int .i64 nodes, .int .i64 low, .slice A n c], .agg #[.int .i64 H.au, .int .i64 H.ro, .slice bA bn bc, .slice pA pn pc]] w fun e w' => ∃ v, e = .returned v ∧ OwnI w' w.heap.size v (lackP l low H) ∧ Below w.heap.size w w' := by
  have HL := Lib.hid hl
  have hh2 : IntsR w pA pn H.pa := hh.2
  have HH := Lib.hid hh2
  have HN := Lib.hid hh2.1
  have HP := Lib.hid hP
  have HA := Lib.hid hA
  clear hl hh hh2 hP hA
  by_cases hq : H.ro ≤ low + 1
  · have he : lackP l low H = [] := by unfold lackP; rw [if_pos hq]
    have hd : decide (H.ro ≤ low + 1) = true := by simpa using hq
    have HE := Lib.hid he
    clear hq he
    go_enter Try.func91, Try.ntmps91
    go_wp2_with fail
    go_ret
    exact ⟨_, rfl, by rw [HE.out]; exact OwnI.nil _ _, by (repeat (first | (with_reducible exact Below.refl _ _) | (with_reducible assumption) | (with_reducible apply bel_alloc) | (with_reducible apply bel_drew) | (with_reducible apply bel_drewN) | (with_reducible refine bel_trans ?_ (by with_reducible assumption)) | (with_reducible refine bel_trans ?_ (HF.out _)) | (with_reducible refine bel_set ?_ (by simp) _) | (with_reducible refine bel_set ?_ (by simp; omega) _) | (with_reducible refine bel_set ?_ (by omega) _)))⟩
  · obtain ⟨R, hR⟩ : ∃ R, R = roundL l (H.ro - 1) := ⟨_, rfl⟩
    have he : lackP l low H = H.pa.filter (fun x => decide (findS R x < 0)) := by unfold lackP; rw [if_neg hq, hR]
    have hd : decide (H.ro ≤ low + 1) = false := by simpa using hq
    have HE := Lib.hid he
    have HRR := Lib.hid hR
    have hs : Sm (H.ro - 1) := ⟨by omega, by omega⟩
    clear hq he hR
    go_enter Try.func91, Try.ntmps91
    go_wp2_with fail
    refine (dag_Of A n c l nodes low (H.ro - 1) _ (HL.out.up (by (repeat (first | (with_reducible exact Below.refl _ _) | (with_reducible assumption) | (with_reducible apply bel_alloc) | (with_reducible apply bel_drew) | (with_reducible apply bel_drewN) | (with_reducible refine bel_trans ?_ (by with_reducible assumption)) | (with_reducible refine bel_trans ?_ (HF.out _)) | (with_reducible refine bel_set ?_ (by simp) _) | (with_reducible refine bel_set ?_ (by simp; omega) _) | (with_reducible refine bel_set ?_ (by omega) _))))) HP.out HA.out (by omega) hcap hcb hs).mono ?_
    rintro e w1 ⟨⟨rA, rn, rc, rfl, hRC⟩, hb1⟩
    rw [← HRR.out] at hRC
    have HRC := Lib.hid hRC
    have hbw1 : Below w.heap.size w w1 := by (repeat (first | (with_reducible exact Below.refl _ _) | (with_reducible assumption) | (with_reducible apply bel_alloc) | (with_reducible apply bel_drew) | (with_reducible apply bel_drewN) | (with_reducible refine bel_trans ?_ (by with_reducible assumption)) | (with_reducible refine bel_trans ?_ (HF.out _)) | (with_reducible refine bel_set ?_ (by simp) _) | (with_reducible refine bel_set ?_ (by simp; omega) _) | (with_reducible refine bel_set ?_ (by omega) _)))
    have hz1 : w.heap.size + 2 ≤ w1.heap.size := by have := hb1.size; simp at this; omega
    have hz_w1 : w.heap.size + 2 ≤ w1.heap.size := (by have hq := (hb1).size; (try simp at hq); omega); have hc0_w1 := fun o => (bcell hb1).1 (w.heap.size + 1) o (by first | (simp; done) | (simp; omega) | omega)
    clear hRC hb1
    go_wp2_with fail
    go_loopw [4, 22] (fun v i wr => ∃ j : Nat, j ≤ pn ∧ i = .int .i64 j ∧ Below w1.heap.size w1 wr ∧ OwnI wr w1.heap.size v ((H.pa.take j).filter (fun x => decide (findS R x < 0)))) (fun _ i _ => pn - (intOf i).toNat)
    case atStart => exact ⟨0, Nat.zero_le _, rfl, Below.refl _ _, OwnI.nil _ _⟩
    case round =>
      clear hz_w1 hc0_w1
      obtain ⟨j, hj, rfl, hbw, hown⟩ := hrel
      (obtain ⟨wk, hwk⟩ : ∃ x, x = wr := ⟨_, rfl⟩); subst hwk
      by_cases hlt : j < pn
      · obtain ⟨b2, off2, rfl, hb2, hcc⟩ := (HH.out.up (bel_trans hbw1 hbw)).2.2 (Nat.lt_of_le_of_lt (Nat.zero_le j) hlt)
        have hcm := hcc j hlt
        have HO := Lib.hid hown
        have hlenj : ((H.pa.take j).filter (fun x => decide (findS R x < 0))).length ≤ j := Nat.le_trans (List.length_filter_le _ _) (by simp; omega)
        have HFT := Lib.hid (filter_take (p := fun x => decide (findS R x < 0)) H.pa j (by rw [HN.out]; exact hlt))
        clear hcc hown
        by_cases hq : findS R (nth H.pa j) < 0
        · have hy : hasC R (nth H.pa j) = false := by unfold hasC; simpa using hq
          have HQ := Lib.hid hq
          clear hq
          go_wp2_with fail
          refine (dag_has rA rn rc R _ false _ (HRC.out.up (by (repeat (first | (with_reducible exact Below.refl _ _) | (with_reducible assumption) | (with_reducible apply bel_alloc) | (with_reducible apply bel_drew) | (with_reducible apply bel_drewN) | (with_reducible refine bel_trans ?_ (by with_reducible assumption)) | (with_reducible refine bel_trans ?_ (HF.out _)) | (with_reducible refine bel_set ?_ (by simp) _) | (with_reducible refine bel_set ?_ (by simp; omega) _) | (with_reducible refine bel_set ?_ (by omega) _))))) hy).mono ?_
          rintro e w2 ⟨rfl, hb2w⟩
          have ho2 := HO.out.up hb2w
          have hsz := hbw.size
          have hsz2 := hb2w.size
          go_wp2_with (at_builtin; refine wpList_app1 rfl (.tmp 30) (.tmp 32) rfl w1.heap.size _ _ rfl (ho2.alloc _) _ (nth H.pa j) rfl (cell0_alloc _ _ _) (by omega) (le_alloc (by omega)) ?_; intro v3 w3 hown3 hg3 hb3 hat3)
          (first | (go_round; (case rel => exact ⟨j + 1, by omega, by go_num, Below.trans (bel_alloc (bel_trans hbw hb2w)) hb3, by rw [HFT.out, if_pos (by simpa using HQ.out)]; exact hown3⟩); (case measure => (simp [intOf] <;> omega))) | (go_roundw; (case rel => exact ⟨j + 1, by omega, by go_num, Below.trans (bel_alloc (bel_trans hbw hb2w)) hb3, by rw [HFT.out, if_pos (by simpa using HQ.out)]; exact hown3⟩); (case measure => (simp [intOf] <;> omega))) | (refine ⟨?_, by simp [intOf] <;> omega⟩; (repeat apply Exists.intro); refine ⟨?rel, ?fr⟩; (case fr => ((repeat' apply And.intro) <;> rfl)); (case rel => exact ⟨j + 1, by omega, by go_num, Below.trans (bel_alloc (bel_trans hbw hb2w)) hb3, by rw [HFT.out, if_pos (by simpa using HQ.out)]; exact hown3⟩)))
        · have hy : hasC R (nth H.pa j) = true := by unfold hasC; simpa using hq
          have HQ := Lib.hid hq
          clear hq
          go_wp2_with fail
          refine (dag_has rA rn rc R _ true _ (HRC.out.up (by (repeat (first | (with_reducible exact Below.refl _ _) | (with_reducible assumption) | (with_reducible apply bel_alloc) | (with_reducible apply bel_drew) | (with_reducible apply bel_drewN) | (with_reducible refine bel_trans ?_ (by with_reducible assumption)) | (with_reducible refine bel_trans ?_ (HF.out _)) | (with_reducible refine bel_set ?_ (by simp) _) | (with_reducible refine bel_set ?_ (by simp; omega) _) | (with_reducible refine bel_set ?_ (by omega) _))))) hy).mono ?_
          rintro e w2 ⟨rfl, hb2w⟩
          have ho2 := HO.out.up hb2w
          go_wp2_with fail
          (first | (go_round; (case rel => exact ⟨j + 1, by omega, by go_num, bel_trans hbw hb2w, by rw [HFT.out, if_neg (by simpa using HQ.out), List.append_nil]; exact ho2⟩); (case measure => (simp [intOf] <;> omega))) | (go_roundw; (case rel => exact ⟨j + 1, by omega, by go_num, bel_trans hbw hb2w, by rw [HFT.out, if_neg (by simpa using HQ.out), List.append_nil]; exact ho2⟩); (case measure => (simp [intOf] <;> omega))) | (refine ⟨?_, by simp [intOf] <;> omega⟩; (repeat apply Exists.intro); refine ⟨?rel, ?fr⟩; (case fr => ((repeat' apply And.intro) <;> rfl)); (case rel => exact ⟨j + 1, by omega, by go_num, bel_trans hbw hb2w, by rw [HFT.out, if_neg (by simpa using HQ.out), List.append_nil]; exact ho2⟩)))
      · go_wp2_with fail
        go_ret
        have e : H.pa.take j = H.pa := List.take_of_length_le (by rw [HN.out]; omega)
        rw [e] at hown
        exact ⟨_, rfl, by rw [HE.out]; exact hown.mono (by omega), bel_trans hbw1 hbw⟩
end Go.Proofs.Ytfkbilbgndekkaa
