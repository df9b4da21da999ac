/- Tables: where a key stands, where a sender stands. -/
import Derived.Test.YtbakkpabiknlmaaSzNd
namespace Go.Proofs.Ytbakkpabiknlmaa
open Go.RowKit
set_option linter.unusedSimpArgs false
set_option linter.unusedVariables false

def cnt {α : Type} (p : α → Bool) : List α → Nat
  | [] => 0
  | x :: l => if p x = true then cnt p l + 1 else 0
theorem cnt_le {α : Type} (p : α → Bool) : ∀ l : List α, cnt p l ≤ l.length
  | [] => Nat.le_refl _
  | x :: l => by unfold cnt; split; have := cnt_le p l; simp; omega; simp
theorem cnt_eq {α : Type} [Inhabited α] (p : α → Bool) : ∀ (l : List α) (lo : Nat), lo ≤ l.length → (∀ t, t < lo → p (l.getD t default) = true) → (lo < l.length → p (l.getD lo default) = false) → cnt p l = lo
  | [], lo, h, _, _ => by have h2 : lo = 0 := by simpa using h
                          subst h2; rfl
  | x :: l, 0, _, _, h => by
    have := h (by simp)
    unfold cnt
    rw [if_neg (by rw [show p x = false from this]; simp)]
  | x :: l, lo + 1, h, h1, h2 => by
    unfold cnt
    rw [if_pos (show p x = true from h1 0 (by omega)), cnt_eq p l lo (by simpa using h) (fun t ht => h1 (t + 1) (by omega)) (fun ht => h2 (by simpa using ht))]
def ltI (a b : Int) : Bool := decide (a < b)
theorem ltI_trans {a b c : Int} (h1 : ltI a b = true) (h2 : ltI b c = true) : ltI a c = true := by simp [ltI] at *; omega
theorem ltI_no {a b c : Int} (h1 : ltI a b = true) (h2 : ltI a c = false) : ltI b c = false := by simp [ltI] at *; omega
theorem ltK_no {a b c : ByteArray} (h1 : ltK a b = true) (h2 : ltK a c = false) : ltK b c = false := by
  cases h : ltK b c
  · rfl
  · rw [ltK_trans h1 h] at h2; cases h2
theorem cmpI_lt {a b : Int} : cmp3 a b < 0 ↔ ltI a b = true := by unfold cmp3 ltI; rw [decide_eq_true_eq]; split; omega; split <;> omega
theorem cmpI_eq {a b : Int} : cmp3 a b = 0 ↔ a = b := by unfold cmp3; split; omega; split <;> omega
def kposP (l : List PairD) (key : ByteArray) : Nat := cnt (fun x => ltK x.k key) l
noncomputable def khasP (l : List PairD) (key : ByteArray) : Bool := dec (kposP l key < l.length ∧ (pth l (kposP l key)).k = key)
def SortedP (l : List PairD) : Prop := ∀ i j, i < j → j < l.length → ltK (pth l i).k (pth l j).k = true
set_option maxRecDepth 100000 in
set_option maxHeartbeats 1000000 in
theorem clos_P (a : PairD) (key : ByteArray) (w : World) : Calls Try.prog 78 #[.agg #[.string a.k, .string a.v], .string key] w fun e w' => e = .returned (.int .i64 (cmpK a.k key)) ∧ Below w.heap.size w w' := by
  go_enter Try.func78, Try.ntmps78
  go_wp2_with (go_at_call 79; refine (strings_Compare _ _ _).mono ?_; rintro e w' ⟨rfl, rfl⟩)
  go_ret
  exact ⟨rfl, by (repeat (first | (with_reducible exact Below.refl _ _) | (with_reducible assumption) | (with_reducible apply bel_alloc) | (with_reducible apply bel_drew) | (with_reducible apply bel_drewN) | (with_reducible refine bel_trans ?_ (by with_reducible assumption)) | (with_reducible refine bel_trans ?_ (HF.out _)) | (with_reducible refine bel_set ?_ (by simp) _) | (with_reducible refine bel_set ?_ (by simp; omega) _) | (with_reducible refine bel_set ?_ (by omega) _)))⟩
def CutP (l : List PairD) (n : Nat) (key : ByteArray) (lo hi : Nat) : Prop := (∀ t, t < lo → ltK (pth l t).k key = true) ∧ ∀ t, hi ≤ t → t < n → ltK (pth l t).k key = false
theorem CutP.pos {l : List PairD} {n : Nat} {key : ByteArray} {lo : Nat} (h : CutP l n key lo lo) (hn : l.length = n) (hlo : lo ≤ n) : kposP l key = lo :=
  cnt_eq _ l lo (by omega) (fun t ht => by rw [List.getD_eq_getElem?_getD] at *; have := h.1 t ht; exact this) (fun ht => h.2 lo (Nat.le_refl _) (by omega))
set_option maxRecDepth 100000 in
set_option maxHeartbeats 2000000 in
theorem bsf_P (A : Option Addr) (n c : Nat) (l : List PairD) (key : ByteArray) (lo' : Nat) (y : Bool) (w : World) (hl : PairsR w A n l) (hP : SortedP l) (hn : n ≤ 1000000000) (hlo' : kposP l key = lo') (hy : khasP l key = y) :
    Calls Try.prog 77 #[.slice A n c, .string key, .func (.func 78) #[] #[]] w fun e w' => e = .returned (.tuple #[.int .i64 lo', .bool y]) ∧ Below w.heap.size w w' := by
  have HL := Lib.hid hl
  have HN := Lib.hid hl.1
  have HP := Lib.hid hP
  have HLO := Lib.hid hlo'
  have HY := Lib.hid hy
  clear hl hP hlo' hy
  go_enter Try.func77, Try.ntmps77
  go_wp2_with fail
  go_loopw [9, 10] (fun s7 s8 wr => ∃ lo hi : Nat, s7 = .int .i64 lo ∧ s8 = .int .i64 hi ∧ lo ≤ hi ∧ hi ≤ n ∧ Hid (CutP l n key lo hi) ∧ Below w.heap.size w wr) (fun s7 s8 _ => (intOf s8).toNat - (intOf s7).toNat)
  case atStart => exact ⟨0, n, rfl, rfl, Nat.zero_le _, Nat.le_refl _, ⟨fun t ht => absurd ht (Nat.not_lt_zero _), fun t h1 h2 => by omega⟩, Below.refl _ _⟩
  case round =>
    obtain ⟨lo, hi, rfl, rfl, hlh, hin, I, hbw⟩ := hrel
    (obtain ⟨wx, hwx⟩ : ∃ x, x = wr := ⟨_, rfl⟩); subst hwx
    by_cases hlt : lo < hi
    · obtain ⟨b, off, rfl, hb, hc⟩ := (HL.out.up hbw).at (by omega)
      obtain ⟨m, hm⟩ : ∃ m, m = (lo + hi) / 2 := ⟨_, rfl⟩
      have hmn : m < n := by omega
      obtain ⟨c0, c1⟩ := hc m hmn
      have hd2 : ((lo : Int) + (hi : Int)) / 2 = (m : Int) := by rw [hm]; omega
      have hm2 : m < hi := by omega
      have hm1 : lo ≤ m := by omega
      have HM2 := Lib.hid hm
      clear hc hm
      cases hbf : ltK (pth l m).k key
      · have hd : decide (cmpK (pth l m).k key < 0) = false := by rw [decide_eq_false_iff_not, cmpK_lt, hbf]; simp
        have HB := Lib.hid hbf
        clear hbf
        go_wp2_with (go_at_call 78; refine (clos_P (pth l m) key _).mono ?_; rintro e w1 ⟨rfl, hb1⟩)
        (first | (go_round; (case rel => (refine ⟨lo, m, rfl, by go_num, by omega, by omega, Lib.hid ⟨I.out.1, fun t h1 h2 => ?_⟩, bel_trans hbw hb1⟩; rcases Nat.lt_or_ge m t with h5 | h5; exact ltK_no (HP.out m t h5 (by rw [HN.out]; exact h2)) HB.out; (obtain rfl : t = m := by omega); exact HB.out)); (case measure => (simp [intOf] <;> omega))) | (go_roundw; (case rel => (refine ⟨lo, m, rfl, by go_num, by omega, by omega, Lib.hid ⟨I.out.1, fun t h1 h2 => ?_⟩, bel_trans hbw hb1⟩; rcases Nat.lt_or_ge m t with h5 | h5; exact ltK_no (HP.out m t h5 (by rw [HN.out]; exact h2)) HB.out; (obtain rfl : t = m := by omega); exact HB.out)); (case measure => (simp [intOf] <;> omega))) | (refine ⟨?_, by simp [intOf] <;> omega⟩; (repeat apply Exists.intro); refine ⟨?rel, ?fr⟩; (case fr => ((repeat' apply And.intro) <;> rfl)); (case rel => (refine ⟨lo, m, rfl, by go_num, by omega, by omega, Lib.hid ⟨I.out.1, fun t h1 h2 => ?_⟩, bel_trans hbw hb1⟩; rcases Nat.lt_or_ge m t with h5 | h5; exact ltK_no (HP.out m t h5 (by rw [HN.out]; exact h2)) HB.out; (obtain rfl : t = m := by omega); exact HB.out))))
      · have hd : decide (cmpK (pth l m).k key < 0) = true := by rw [decide_eq_true_eq, cmpK_lt, hbf]
        have HB := Lib.hid hbf
        clear hbf
        go_wp2_with (go_at_call 78; refine (clos_P (pth l m) key _).mono ?_; rintro e w1 ⟨rfl, hb1⟩)
        (first | (go_round; (case rel => (refine ⟨m + 1, hi, by go_num, rfl, by omega, by omega, Lib.hid ⟨fun t h1 => ?_, I.out.2⟩, bel_trans hbw hb1⟩; rcases Nat.lt_or_ge t m with h5 | h5; exact ltK_trans (HP.out t m h5 (by rw [HN.out]; exact hmn)) HB.out; (obtain rfl : t = m := by omega); exact HB.out)); (case measure => (simp [intOf] <;> omega))) | (go_roundw; (case rel => (refine ⟨m + 1, hi, by go_num, rfl, by omega, by omega, Lib.hid ⟨fun t h1 => ?_, I.out.2⟩, bel_trans hbw hb1⟩; rcases Nat.lt_or_ge t m with h5 | h5; exact ltK_trans (HP.out t m h5 (by rw [HN.out]; exact hmn)) HB.out; (obtain rfl : t = m := by omega); exact HB.out)); (case measure => (simp [intOf] <;> omega))) | (refine ⟨?_, by simp [intOf] <;> omega⟩; (repeat apply Exists.intro); refine ⟨?rel, ?fr⟩; (case fr => ((repeat' apply And.intro) <;> rfl)); (case rel => (refine ⟨m + 1, hi, by go_num, rfl, by omega, by omega, Lib.hid ⟨fun t h1 => ?_, I.out.2⟩, bel_trans hbw hb1⟩; rcases Nat.lt_or_ge t m with h5 | h5; exact ltK_trans (HP.out t m h5 (by rw [HN.out]; exact hmn)) HB.out; (obtain rfl : t = m := by omega); exact HB.out))))
    · obtain rfl : hi = lo := by omega
      have hpos := I.out.pos HN.out hin
      rw [HLO.out] at hpos
      subst hpos
      by_cases hln : lo' < n
      · obtain ⟨b, off, rfl, hb, hc⟩ := (HL.out.up hbw).at (by omega)
        obtain ⟨c0, c1⟩ := hc lo' hln
        clear hc
        have hyv : y = (cmpK (pth l lo').k key == 0) := by
          rw [← HY.out, Bool.eq_iff_iff]; unfold khasP; rw [HLO.out, dec_iff, beq_iff_eq, cmpK_eq, HN.out]
          exact ⟨fun h => h.2, fun h => ⟨hln, h⟩⟩
        have HYV := Lib.hid hyv
        clear hyv
        go_wp2_with (go_at_call 78; refine (clos_P (pth l lo') key _).mono ?_; rintro e w1 ⟨rfl, hb1⟩)
        go_ret2
        exact ⟨by rw [HYV.out]; rfl, bel_trans hbw hb1⟩
      · have hh : y = false := by
          rw [← HY.out]
          cases h : khasP l key
          · rfl
          · have := (dec_iff.1 h).1; rw [HN.out, HLO.out] at this; exact absurd this hln
        subst hh
        go_wp2_with fail
        go_ret2
        exact ⟨rfl, hbw⟩
def kposA (l : List AcctD) (key : Int) : Nat := cnt (fun x => ltI x.se key) l
noncomputable def khasA (l : List AcctD) (key : Int) : Bool := dec (kposA l key < l.length ∧ (ath l (kposA l key)).se = key)
def SortedA (l : List AcctD) : Prop := ∀ i j, i < j → j < l.length → ltI (ath l i).se (ath l j).se = true
set_option maxRecDepth 100000 in
set_option maxHeartbeats 1000000 in
theorem clos_A (a : AcctD) (key : Int) (w : World) : Calls Try.prog 71 #[.agg #[.int .i64 a.se, .int .i64 a.sq], .int .i64 key] w fun e w' => e = .returned (.int .i64 (cmp3 a.se key)) ∧ Below w.heap.size w w' := by
  go_enter Try.func71, Try.ntmps71
  go_wp2_with (go_at_call 68; refine (cmp_Compare_int _ _ _).mono ?_; rintro e w' ⟨rfl, rfl⟩)
  go_ret
  exact ⟨rfl, by (repeat (first | (with_reducible exact Below.refl _ _) | (with_reducible assumption) | (with_reducible apply bel_alloc) | (with_reducible apply bel_drew) | (with_reducible apply bel_drewN) | (with_reducible refine bel_trans ?_ (by with_reducible assumption)) | (with_reducible refine bel_trans ?_ (HF.out _)) | (with_reducible refine bel_set ?_ (by simp) _) | (with_reducible refine bel_set ?_ (by simp; omega) _) | (with_reducible refine bel_set ?_ (by omega) _)))⟩
def CutA (l : List AcctD) (n : Nat) (key : Int) (lo hi : Nat) : Prop := (∀ t, t < lo → ltI (ath l t).se key = true) ∧ ∀ t, hi ≤ t → t < n → ltI (ath l t).se key = false
theorem CutA.pos {l : List AcctD} {n : Nat} {key : Int} {lo : Nat} (h : CutA l n key lo lo) (hn : l.length = n) (hlo : lo ≤ n) : kposA l key = lo :=
  cnt_eq _ l lo (by omega) (fun t ht => by rw [List.getD_eq_getElem?_getD] at *; have := h.1 t ht; exact this) (fun ht => h.2 lo (Nat.le_refl _) (by omega))
set_option maxRecDepth 100000 in
set_option maxHeartbeats 2000000 in
theorem bsf_A (A : Option Addr) (n c : Nat) (l : List AcctD) (key : Int) (lo' : Nat) (y : Bool) (w : World) (hl : AcctsR w A n l) (hP : SortedA l) (hn : n ≤ 1000000000) (hlo' : kposA l key = lo') (hy : khasA l key = y) :
    Calls Try.prog 70 #[.slice A n c, .int .i64 key, .func (.func 71) #[] #[]] w fun e w' => e = .returned (.tuple #[.int .i64 lo', .bool y]) ∧ Below w.heap.size w w' := by
  have HL := Lib.hid hl
  have HN := Lib.hid hl.1
  have HP := Lib.hid hP
  have HLO := Lib.hid hlo'
  have HY := Lib.hid hy
  clear hl hP hlo' hy
  go_enter Try.func70, Try.ntmps70
  go_wp2_with fail
  go_loopw [9, 10] (fun s7 s8 wr => ∃ lo hi : Nat, s7 = .int .i64 lo ∧ s8 = .int .i64 hi ∧ lo ≤ hi ∧ hi ≤ n ∧ Hid (CutA l n key lo hi) ∧ Below w.heap.size w wr) (fun s7 s8 _ => (intOf s8).toNat - (intOf s7).toNat)
  case atStart => exact ⟨0, n, rfl, rfl, Nat.zero_le _, Nat.le_refl _, ⟨fun t ht => absurd ht (Nat.not_lt_zero _), fun t h1 h2 => by omega⟩, Below.refl _ _⟩
  case round =>
    obtain ⟨lo, hi, rfl, rfl, hlh, hin, I, hbw⟩ := hrel
    (obtain ⟨wx, hwx⟩ : ∃ x, x = wr := ⟨_, rfl⟩); subst hwx
    by_cases hlt : lo < hi
    · obtain ⟨b, off, rfl, hb, hc⟩ := (HL.out.up hbw).at (by omega)
      obtain ⟨m, hm⟩ : ∃ m, m = (lo + hi) / 2 := ⟨_, rfl⟩
      have hmn : m < n := by omega
      obtain ⟨c0, c1⟩ := hc m hmn
      have hd2 : ((lo : Int) + (hi : Int)) / 2 = (m : Int) := by rw [hm]; omega
      have hm2 : m < hi := by omega
      have hm1 : lo ≤ m := by omega
      have HM2 := Lib.hid hm
      clear hc hm
      cases hbf : ltI (ath l m).se key
      · have hd : decide (cmp3 (ath l m).se key < 0) = false := by rw [decide_eq_false_iff_not, cmpI_lt, hbf]; simp
        have HB := Lib.hid hbf
        clear hbf
        go_wp2_with (go_at_call 71; refine (clos_A (ath l m) key _).mono ?_; rintro e w1 ⟨rfl, hb1⟩)
        (first | (go_round; (case rel => (refine ⟨lo, m, rfl, by go_num, by omega, by omega, Lib.hid ⟨I.out.1, fun t h1 h2 => ?_⟩, bel_trans hbw hb1⟩; rcases Nat.lt_or_ge m t with h5 | h5; exact ltI_no (HP.out m t h5 (by rw [HN.out]; exact h2)) HB.out; (obtain rfl : t = m := by omega); exact HB.out)); (case measure => (simp [intOf] <;> omega))) | (go_roundw; (case rel => (refine ⟨lo, m, rfl, by go_num, by omega, by omega, Lib.hid ⟨I.out.1, fun t h1 h2 => ?_⟩, bel_trans hbw hb1⟩; rcases Nat.lt_or_ge m t with h5 | h5; exact ltI_no (HP.out m t h5 (by rw [HN.out]; exact h2)) HB.out; (obtain rfl : t = m := by omega); exact HB.out)); (case measure => (simp [intOf] <;> omega))) | (refine ⟨?_, by simp [intOf] <;> omega⟩; (repeat apply Exists.intro); refine ⟨?rel, ?fr⟩; (case fr => ((repeat' apply And.intro) <;> rfl)); (case rel => (refine ⟨lo, m, rfl, by go_num, by omega, by omega, Lib.hid ⟨I.out.1, fun t h1 h2 => ?_⟩, bel_trans hbw hb1⟩; rcases Nat.lt_or_ge m t with h5 | h5; exact ltI_no (HP.out m t h5 (by rw [HN.out]; exact h2)) HB.out; (obtain rfl : t = m := by omega); exact HB.out))))
      · have hd : decide (cmp3 (ath l m).se key < 0) = true := by rw [decide_eq_true_eq, cmpI_lt, hbf]
        have HB := Lib.hid hbf
        clear hbf
        go_wp2_with (go_at_call 71; refine (clos_A (ath l m) key _).mono ?_; rintro e w1 ⟨rfl, hb1⟩)
        (first | (go_round; (case rel => (refine ⟨m + 1, hi, by go_num, rfl, by omega, by omega, Lib.hid ⟨fun t h1 => ?_, I.out.2⟩, bel_trans hbw hb1⟩; rcases Nat.lt_or_ge t m with h5 | h5; exact ltI_trans (HP.out t m h5 (by rw [HN.out]; exact hmn)) HB.out; (obtain rfl : t = m := by omega); exact HB.out)); (case measure => (simp [intOf] <;> omega))) | (go_roundw; (case rel => (refine ⟨m + 1, hi, by go_num, rfl, by omega, by omega, Lib.hid ⟨fun t h1 => ?_, I.out.2⟩, bel_trans hbw hb1⟩; rcases Nat.lt_or_ge t m with h5 | h5; exact ltI_trans (HP.out t m h5 (by rw [HN.out]; exact hmn)) HB.out; (obtain rfl : t = m := by omega); exact HB.out)); (case measure => (simp [intOf] <;> omega))) | (refine ⟨?_, by simp [intOf] <;> omega⟩; (repeat apply Exists.intro); refine ⟨?rel, ?fr⟩; (case fr => ((repeat' apply And.intro) <;> rfl)); (case rel => (refine ⟨m + 1, hi, by go_num, rfl, by omega, by omega, Lib.hid ⟨fun t h1 => ?_, I.out.2⟩, bel_trans hbw hb1⟩; rcases Nat.lt_or_ge t m with h5 | h5; exact ltI_trans (HP.out t m h5 (by rw [HN.out]; exact hmn)) HB.out; (obtain rfl : t = m := by omega); exact HB.out))))
    · obtain rfl : hi = lo := by omega
      have hpos := I.out.pos HN.out hin
      rw [HLO.out] at hpos
      subst hpos
      by_cases hln : lo' < n
      · obtain ⟨b, off, rfl, hb, hc⟩ := (HL.out.up hbw).at (by omega)
        obtain ⟨c0, c1⟩ := hc lo' hln
        clear hc
        have hyv : y = (cmp3 (ath l lo').se key == 0) := by
          rw [← HY.out, Bool.eq_iff_iff]; unfold khasA; rw [HLO.out, dec_iff, beq_iff_eq, cmpI_eq, HN.out]
          exact ⟨fun h => h.2, fun h => ⟨hln, h⟩⟩
        have HYV := Lib.hid hyv
        clear hyv
        go_wp2_with (go_at_call 71; refine (clos_A (ath l lo') key _).mono ?_; rintro e w1 ⟨rfl, hb1⟩)
        go_ret2
        exact ⟨by rw [HYV.out]; rfl, bel_trans hbw hb1⟩
      · have hh : y = false := by
          rw [← HY.out]
          cases h : khasA l key
          · rfl
          · have := (dec_iff.1 h).1; rw [HN.out, HLO.out] at this; exact absurd this hln
        subst hh
        go_wp2_with fail
        go_ret2
        exact ⟨rfl, hbw⟩
theorem MayP.sorted {l : List PairD} (h : MayP l) : SortedP l := by
  intro i j hij hj
  induction j with
  | zero => omega
  | succ j ih =>
    have h1 := (h.2 (j + 1) hj).2 (by omega)
    rw [Nat.add_sub_cancel] at h1
    rcases Nat.lt_or_ge i j with h2 | h2
    · exact ltK_trans (ih h2 (by omega)) h1
    · obtain rfl : i = j := by omega
      exact h1
theorem MayA.sorted {l : List AcctD} (h : MayA l) : SortedA l := by
  intro i j hij hj
  induction j with
  | zero => omega
  | succ j ih =>
    have h1 := (h.2 (j + 1) hj).2 (by omega)
    rw [Nat.add_sub_cancel] at h1
    rcases Nat.lt_or_ge i j with h2 | h2
    · exact ltI_trans (ih h2 (by omega)) (by simp [ltI, h1])
    · obtain rfl : i = j := by omega
      simp [ltI, h1]
end Go.Proofs.Ytbakkpabiknlmaa
