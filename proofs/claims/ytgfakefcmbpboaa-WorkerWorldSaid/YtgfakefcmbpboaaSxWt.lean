/- Where a wait stands; how many unlike nodes there are; what a list contains: at the program. -/
import Derived.Test.YtgfakefcmbpboaaSxWf
namespace Go.Proofs.Ytgfakefcmbpboaa
open Go.RowKit
set_option linter.unusedSimpArgs false
set_option linter.unusedVariables false

def kposW (l : List WaitD) (key : Int) : Nat := cnt (fun x => ltI x.di key) l
noncomputable def khasW (l : List WaitD) (key : Int) : Bool := dec (kposW l key < l.length ∧ (wth l (kposW l key)).di = key)
def SortedW (l : List WaitD) : Prop := ∀ i j, i < j → j < l.length → ltI (wth l i).di (wth l j).di = true
set_option maxRecDepth 100000 in
set_option maxHeartbeats 1000000 in
theorem clos_W (a : WaitD) (Bq : Option Addr) (mq dq : Nat) (key : Int) (w : World) : Calls Try.prog 73 #[.agg #[.int .i64 a.di, .slice Bq mq dq], .int .i64 key] w fun e w' => e = .returned (.int .i64 (cmp3 a.di key)) ∧ Below w.heap.size w w' := by
  go_enter Try.func73, Try.ntmps73
  go_wp2_with (go_at_call 69; refine (cmp_Compare_int _ _ _).mono ?_; rintro e w' ⟨rfl, rfl⟩)
  go_ret
  exact ⟨rfl, belA⟩
def CutW (l : List WaitD) (n : Nat) (key : Int) (lo hi : Nat) : Prop := (∀ t, t < lo → ltI (wth l t).di key = true) ∧ ∀ t, hi ≤ t → t < n → ltI (wth l t).di key = false
theorem CutW.pos {l : List WaitD} {n : Nat} {key : Int} {lo : Nat} (h : CutW l n key lo lo) (hn : l.length = n) (hlo : lo ≤ n) : kposW l key = lo :=
  cnt_eq _ l lo (by omega) (fun t ht => by rw [List.getD_eq_getElem?_getD] at *; have := h.1 t ht; exact this) (fun ht => h.2 lo (Nat.le_refl _) (by omega))
set_option maxRecDepth 100000 in
set_option maxHeartbeats 2000000 in
theorem bsf_W (A : Option Addr) (n c : Nat) (l : List WaitD) (key : Int) (lo' : Nat) (y : Bool) (w : World) (hl : WaitsR w A n l) (hP : SortedW l) (hn : n ≤ 1000000000) (hlo' : kposW l key = lo') (hy : khasW l key = y) :
    Calls Try.prog 72 #[.slice A n c, .int .i64 key, .func (.func 73) #[] #[]] w fun e w' => e = .returned (.tuple #[.int .i64 lo', .bool y]) ∧ Below w.heap.size w w' := by
  have HL := Lib.hid hl
  have HN := Lib.hid hl.1
  have HP := Lib.hid hP
  have HLO := Lib.hid hlo'
  have HY := Lib.hid hy
  clear hl hP hlo' hy
  go_enter Try.func72, Try.ntmps72
  go_wp2_with fail
  go_loopw [9, 10] (fun s7 s8 wr => ∃ lo hi : Nat, s7 = .int .i64 lo ∧ s8 = .int .i64 hi ∧ lo ≤ hi ∧ hi ≤ n ∧ Hid (CutW l n key lo hi) ∧ Below w.heap.size w wr) (fun s7 s8 _ => (intOf s8).toNat - (intOf s7).toNat)
  case atStart => exact ⟨0, n, rfl, rfl, Nat.zero_le _, Nat.le_refl _, ⟨fun t ht => absurd ht (Nat.not_lt_zero _), fun t h1 h2 => by omega⟩, Below.refl _ _⟩
  case round =>
    obtain ⟨lo, hi, rfl, rfl, hlh, hin, I, hbw⟩ := hrel
    (obtain ⟨wx, hwx⟩ : ∃ x, x = wr := ⟨_, rfl⟩); subst hwx
    by_cases hlt : lo < hi
    · obtain ⟨b, off, rfl, hb, hc⟩ := (HL.out.up hbw).2.2 (by omega)
      obtain ⟨m, hm⟩ : ∃ m, m = (lo + hi) / 2 := ⟨_, rfl⟩
      have hmn : m < n := by omega
      obtain ⟨Bq, mq, dq, ⟨c0, c1⟩, -⟩ := hc m hmn
      have hd2 : ((lo : Int) + (hi : Int)) / 2 = (m : Int) := by rw [hm]; omega
      have hm2 : m < hi := by omega
      have hm1 : lo ≤ m := by omega
      have HM2 := Lib.hid hm
      clear hc hm
      cases hbf : ltI (wth l m).di key
      · have hd : decide (cmp3 (wth l m).di key < 0) = false := by rw [decide_eq_false_iff_not, cmpI_lt, hbf]; simp
        have HB := Lib.hid hbf
        clear hbf
        go_wp2_with (go_at_call 73; refine (clos_W (wth l m) Bq mq dq key _).mono ?_; rintro e w1 ⟨rfl, hb1⟩)
        (first | (go_round; (case rel => (refine ⟨lo, m, rfl, by go_num, by omega, by omega, Lib.hid ⟨I.out.1, fun t h1 h2 => ?_⟩, bel_trans hbw hb1⟩; rcases Nat.lt_or_ge m t with h5 | h5; exact ltI_no (HP.out m t h5 (by rw [HN.out]; exact h2)) HB.out; (obtain rfl : t = m := by omega); exact HB.out)); (case measure => (simp [intOf] <;> omega))) | (go_roundw; (case rel => (refine ⟨lo, m, rfl, by go_num, by omega, by omega, Lib.hid ⟨I.out.1, fun t h1 h2 => ?_⟩, bel_trans hbw hb1⟩; rcases Nat.lt_or_ge m t with h5 | h5; exact ltI_no (HP.out m t h5 (by rw [HN.out]; exact h2)) HB.out; (obtain rfl : t = m := by omega); exact HB.out)); (case measure => (simp [intOf] <;> omega))) | (refine ⟨?_, by simp [intOf] <;> omega⟩; (repeat apply Exists.intro); refine ⟨?rel, ?fr⟩; (case fr => ((repeat' apply And.intro) <;> rfl)); (case rel => (refine ⟨lo, m, rfl, by go_num, by omega, by omega, Lib.hid ⟨I.out.1, fun t h1 h2 => ?_⟩, bel_trans hbw hb1⟩; rcases Nat.lt_or_ge m t with h5 | h5; exact ltI_no (HP.out m t h5 (by rw [HN.out]; exact h2)) HB.out; (obtain rfl : t = m := by omega); exact HB.out))))
      · have hd : decide (cmp3 (wth l m).di key < 0) = true := by rw [decide_eq_true_eq, cmpI_lt, hbf]
        have HB := Lib.hid hbf
        clear hbf
        go_wp2_with (go_at_call 73; refine (clos_W (wth l m) Bq mq dq key _).mono ?_; rintro e w1 ⟨rfl, hb1⟩)
        (first | (go_round; (case rel => (refine ⟨m + 1, hi, by go_num, rfl, by omega, by omega, Lib.hid ⟨fun t h1 => ?_, I.out.2⟩, bel_trans hbw hb1⟩; rcases Nat.lt_or_ge t m with h5 | h5; exact ltI_trans (HP.out t m h5 (by rw [HN.out]; exact hmn)) HB.out; (obtain rfl : t = m := by omega); exact HB.out)); (case measure => (simp [intOf] <;> omega))) | (go_roundw; (case rel => (refine ⟨m + 1, hi, by go_num, rfl, by omega, by omega, Lib.hid ⟨fun t h1 => ?_, I.out.2⟩, bel_trans hbw hb1⟩; rcases Nat.lt_or_ge t m with h5 | h5; exact ltI_trans (HP.out t m h5 (by rw [HN.out]; exact hmn)) HB.out; (obtain rfl : t = m := by omega); exact HB.out)); (case measure => (simp [intOf] <;> omega))) | (refine ⟨?_, by simp [intOf] <;> omega⟩; (repeat apply Exists.intro); refine ⟨?rel, ?fr⟩; (case fr => ((repeat' apply And.intro) <;> rfl)); (case rel => (refine ⟨m + 1, hi, by go_num, rfl, by omega, by omega, Lib.hid ⟨fun t h1 => ?_, I.out.2⟩, bel_trans hbw hb1⟩; rcases Nat.lt_or_ge t m with h5 | h5; exact ltI_trans (HP.out t m h5 (by rw [HN.out]; exact hmn)) HB.out; (obtain rfl : t = m := by omega); exact HB.out))))
    · obtain rfl : hi = lo := by omega
      have hpos := I.out.pos HN.out hin
      rw [HLO.out] at hpos
      subst hpos
      by_cases hln : lo' < n
      · obtain ⟨b, off, rfl, hb, hc⟩ := (HL.out.up hbw).2.2 (by omega)
        obtain ⟨Bq, mq, dq, ⟨c0, c1⟩, -⟩ := hc lo' hln
        clear hc
        have hyv : y = (cmp3 (wth l lo').di key == 0) := by
          rw [← HY.out, Bool.eq_iff_iff]; unfold khasW; rw [HLO.out, dec_iff, beq_iff_eq, cmpI_eq, HN.out]
          exact ⟨fun h => h.2, fun h => ⟨hln, h⟩⟩
        have HYV := Lib.hid hyv
        clear hyv
        go_wp2_with (go_at_call 73; refine (clos_W (wth l lo') Bq mq dq key _).mono ?_; rintro e w1 ⟨rfl, hb1⟩)
        go_ret2
        exact ⟨by rw [HYV.out]; rfl, bel_trans hbw hb1⟩
      · have hh : y = false := by
          rw [← HY.out]
          cases h : khasW l key
          · rfl
          · have := (dec_iff.1 h).1; rw [HN.out, HLO.out] at this; exact absurd this hln
        subst hh
        go_wp2_with fail
        go_ret2
        exact ⟨rfl, hbw⟩
theorem worker_wait (A : Option Addr) (n c : Nat) (l : List WaitD) (key : Int) (lo : Nat) (y : Bool) (w : World) (hl : WaitsR w A n l) (hP : SortedW l) (hn : n ≤ 1000000000) (hlo : kposW l key = lo) (hy : khasW l key = y) :
    Calls Try.prog 52 #[.slice A n c, .int .i64 key] w fun e w' => e = .returned (.tuple #[.int .i64 lo, .bool y]) ∧ Below w.heap.size w w' := by
  have HL := Lib.hid hl
  have HP := Lib.hid hP
  clear hl hP
  go_enter Try.func52, Try.ntmps52
  go_wp2_with fail
  refine (bsf_W A n c l key lo y _ (HL.out.up (belA)) HP.out hn hlo hy).mono ?_
  rintro e w1 ⟨rfl, hb1⟩
  go_wp2_with fail
  go_ret2
  exact ⟨rfl, belA⟩
def RisesIn (l : List Int) (m : Int) : Prop := (∀ i j, i < j → j < l.length → nth l i < nth l j) ∧ ∀ j, j < l.length → 1 ≤ nth l j ∧ nth l j ≤ m
def seenC (l : List Int) : List Value := (List.range 17).map fun x : Nat => Value.bool (decide ((x : Int) ∈ l))
theorem seenC_nil : seenC [] = [.bool false, .bool false, .bool false, .bool false, .bool false, .bool false, .bool false, .bool false, .bool false, .bool false, .bool false, .bool false, .bool false, .bool false, .bool false, .bool false, .bool false] := by rfl
theorem seenC_at (l : List Int) (x : Nat) (hx : x < 17) : (seenC l)[x]? = some (.bool (decide ((x : Int) ∈ l))) := by
  unfold seenC; simp [hx]
theorem seenC_set (l : List Int) (x : Nat) (hx : x < 17) : (seenC l).set x (.bool true) = seenC (l ++ [(x : Int)]) := by
  apply List.ext_getElem?
  intro q
  unfold seenC
  by_cases hq : q < 17
  · rw [List.getElem?_set]
    by_cases he : x = q
    · subst he; simp [hq]
    · have : ¬ ((q : Int) = (x : Int)) := by omega
      simp [he, hq, this]
  · rw [List.getElem?_eq_none (by simp; omega), List.getElem?_eq_none (by simp; omega)]
def UnlJ (A : Option Addr) (n c : Nat) (l : List Int) (nodes : Int) (w : World) (a' : Act) (w' : World) : Prop :=
  ∃ (k : Nat) (u2 u3 u4 u8 u9 u10 u11 u12 u13 u14 u15 u16 u17 u18 u19 u20 u21 u22 u23 u24 u25 u26 u27 u28 u29 u30 u31 u32 u33 u34 u35 u36 : Value), a' = { tmps := #[.int .i64 nodes, .slice A n c, u2, u3, u4, .pointer (some ⟨w.heap.size, 0, none⟩), .int .i64 (k : Int), .int .i64 (k : Int), u8, u9, u10, u11, u12, u13, u14, u15, u16, u17, u18, u19, u20, u21, u22, u23, u24, u25, u26, u27, u28, u29, u30, u31, u32, u33, u34, u35, u36], defers := [] } ∧ k ≤ n ∧ Blk w' w.heap.size 126 (seenC (l.take k)) ∧ Below w.heap.size w w'
theorem UnlJ.mk {A : Option Addr} {n c : Nat} {l : List Int} {nodes : Int} {w : World} {ix iy : Int} {k : Nat} {u2 u3 u4 u8 u9 u10 u11 u12 u13 u14 u15 u16 u17 u18 u19 u20 u21 u22 u23 u24 u25 u26 u27 u28 u29 u30 u31 u32 u33 u34 u35 u36 : Value} {w' : World} (hk : k ≤ n) (h : Blk w' w.heap.size 126 (seenC (l.take k))) (hb : Below w.heap.size w w') (hix : ix = (k : Int)) (hiy : iy = (k : Int)) :
    UnlJ A n c l nodes w { tmps := #[.int .i64 nodes, .slice A n c, u2, u3, u4, .pointer (some ⟨w.heap.size, 0, none⟩), .int .i64 ix, .int .i64 iy, u8, u9, u10, u11, u12, u13, u14, u15, u16, u17, u18, u19, u20, u21, u22, u23, u24, u25, u26, u27, u28, u29, u30, u31, u32, u33, u34, u35, u36], defers := [] } w' := by
  subst hix; subst hiy
  exact ⟨k, _, _, _, _, _, _, _, _, _, _, _, _, _, _, _, _, _, _, _, _, _, _, _, _, _, _, _, _, _, _, _, _, rfl, hk, h, hb⟩
set_option maxRecDepth 100000 in
set_option maxHeartbeats 1000000 in
theorem comm_Unlike (A : Option Addr) (n c : Nat) (l : List Int) (nodes : Int) (w : World) (hl : IntsR w A n l) (hr : RisesIn l nodes) (hm : nodes ≤ 16) :
    Calls Try.prog 76 #[.int .i64 nodes, .slice A n c] w fun e w' => e = .returned (.int .i64 (n : Int)) ∧ Below w.heap.size w w' := by
  have HL := Lib.hid hl
  have HN := Lib.hid hl.1
  have HR := Lib.hid hr
  have hnn : n ≤ 9223372036854775807 := hl.2.1
  clear hl hr
  go_enter Try.func76, Try.ntmps76
  go_wp2_with fail
  refine wp_scope_back 0 (UnlJ A n c l nodes w) (fun a' _ => n - (intOf (a'.tmps.getD 7 undef)).toNat) rfl ?_ ?_
  · intro hpass
    go_wp2_with fail
    rename_i K hK
    apply wp_label
    apply hK
    exact hpass _ _ (UnlJ.mk (k := 0) (Nat.zero_le _) (by rw [List.take_zero, seenC_nil]; exact Blk.new _ _ _) (belA) rfl rfl)
  · rintro a' w' ⟨k, u2, u3, u4, u8, u9, u10, u11, u12, u13, u14, u15, u16, u17, u18, u19, u20, u21, u22, u23, u24, u25, u26, u27, u28, u29, u30, u31, u32, u33, u34, u35, u36, rfl, hk, hB, hbw⟩
    by_cases hlt : k < n
    · obtain ⟨b, off, rfl, hb, hc⟩ := (HL.out.up hbw).2.2 (by omega)
      have hck := hc k hlt
      obtain ⟨h1, h2⟩ := HR.out.2 k (by rw [HN.out]; exact hlt)
      obtain ⟨x, hx⟩ : ∃ x : Nat, nth l k = (x : Int) := ⟨(nth l k).toNat, by omega⟩
      have hnew : ¬ ((x : Int) ∈ l.take k) := fun hmem => by
        obtain ⟨j, hj, e⟩ := List.getElem_of_mem hmem
        rw [List.length_take] at hj
        have h3 := HR.out.1 j k (by omega) (by rw [HN.out]; exact hlt)
        have e2 : nth l j = (x : Int) := by rw [← e]; simp [nth, show j < l.length by omega]
        omega
      rw [hx] at hck h1 h2
      have hx17 : x < 17 := by omega
      have hcx : w'.cell? ⟨w.heap.size, x, none⟩ = some (.bool false) := hB.box.2 x _ (by rw [seenC_at _ x hx17]; simp [hnew])
      have hfx := hB.frozen
      have hltB := hB.lt
      have hx1 : decide ((1 : Int) ≤ (x : Int)) = true := by simpa using h1
      have hx2 : decide ((x : Int) ≤ nodes) = true := by simpa using h2
      have hx0 : (0 : Int) ≤ (x : Int) := by omega
      have hxi : (x : Int) < 17 := by omega
      have hne : ((k : Int) == (n : Int)) = false := by simp; omega
      have HB2 : Hid (Blk (w'.setCell ⟨w.heap.size, x, none⟩ (.bool true)) w.heap.size 126 (seenC (l.take (k + 1)))) := Lib.hid (by rw [take_nth l k (by rw [HN.out]; exact hlt), hx, ← seenC_set _ x hx17]; exact hB.set_ x _)
      clear hc hnew hB hx
      go_wp2_with fail
      apply wp_goto
      refine ⟨rfl, UnlJ.mk (k := k + 1) (by omega) HB2.out (belB) (by omega) (by omega), ?_⟩
      simp [intOf]; omega
    · obtain rfl : k = n := by omega
      have hne : ((k : Int) == (k : Int)) = true := by simp
      go_wp2_with fail
      simp only [Exit.jump]
      go_ret
      exact ⟨rfl, hbw⟩
def memS (l : List Int) (x : Int) : Bool := decide (x ∈ l)
set_option maxRecDepth 100000 in
set_option maxHeartbeats 1000000 in
theorem slices_Index (A : Option Addr) (n c : Nat) (l : List Int) (x : Int) (w : World) (hl : IntsR w A n l) :
    Calls Try.prog 81 #[.slice A n c, .int .i64 x] w fun e w' => ∃ z : Int, e = .returned (.int .i64 z) ∧ decide (0 ≤ z) = memS l x ∧ Below w.heap.size w w' := by
  have HL := Lib.hid hl
  have HN := Lib.hid hl.1
  have hnn : n ≤ 9223372036854775807 := hl.2.1
  clear hl
  go_enter Try.func81, Try.ntmps81
  go_wp2_with fail
  go_loopw [8] (fun iv wr => ∃ k : Nat, k ≤ n ∧ iv = .int .i64 k ∧ Hid (∀ j, j < k → nth l j ≠ x) ∧ Below w.heap.size w wr) (fun iv _ => n - (intOf iv).toNat)
  case atStart => exact ⟨0, Nat.zero_le _, rfl, Lib.hid (fun j hj => absurd hj (by omega)), Below.refl _ _⟩
  case round =>
    obtain ⟨k, hk, rfl, HQ, hbw⟩ := hrel
    (obtain ⟨wk, hwk⟩ : ∃ x, x = wr := ⟨_, rfl⟩); subst hwk
    by_cases hlt : k < n
    · obtain ⟨b, off, rfl, hb, hc⟩ := (HL.out.up hbw).2.2 (by omega)
      have hck := hc k hlt
      clear hc
      by_cases hq : x = nth l k
      · have HE := Lib.hid hq
        have hd : (x == nth l k) = true := by simpa using hq
        clear hq
        go_wp2_with fail
        go_ret
        exact ⟨_, rfl, (by rw [Bool.eq_iff_iff]; unfold memS; simp only [decide_eq_true_eq]; exact ⟨fun _ => by rw [HE.out]; simp [nth, show k < l.length by rw [HN.out]; exact hlt], fun _ => by omega⟩), hbw⟩
      · have HE := Lib.hid hq
        have hd : (x == nth l k) = false := by simpa using hq
        clear hq
        go_wp2_with fail
        (first | (go_round; (case rel => exact ⟨k + 1, by omega, by go_num, Lib.hid (fun j hj => by (rcases Nat.lt_or_ge j k with h | h; exact HQ.out j h; (obtain rfl : j = k := by omega); exact fun e => HE.out e.symm)), hbw⟩); (case measure => (simp [intOf] <;> omega))) | (go_roundw; (case rel => exact ⟨k + 1, by omega, by go_num, Lib.hid (fun j hj => by (rcases Nat.lt_or_ge j k with h | h; exact HQ.out j h; (obtain rfl : j = k := by omega); exact fun e => HE.out e.symm)), hbw⟩); (case measure => (simp [intOf] <;> omega))) | (refine ⟨?_, by simp [intOf] <;> omega⟩; (repeat apply Exists.intro); refine ⟨?rel, ?fr⟩; (case fr => ((repeat' apply And.intro) <;> rfl)); (case rel => exact ⟨k + 1, by omega, by go_num, Lib.hid (fun j hj => by (rcases Nat.lt_or_ge j k with h | h; exact HQ.out j h; (obtain rfl : j = k := by omega); exact fun e => HE.out e.symm)), hbw⟩)))
    · obtain rfl : k = n := by omega
      go_wp2_with fail
      go_ret
      exact ⟨_, rfl, (by rw [Bool.eq_iff_iff]; unfold memS; simp only [decide_eq_true_eq]; exact ⟨fun h => absurd h (by omega), fun h => absurd h (fun hm => by obtain ⟨j, hj, e⟩ := List.getElem_of_mem hm; exact HQ.out j (by rw [← HN.out]; exact hj) (by simp [nth, hj, e]))⟩), hbw⟩
set_option maxRecDepth 100000 in
set_option maxHeartbeats 1000000 in
theorem slices_Contains (A : Option Addr) (n c : Nat) (l : List Int) (x : Int) (y : Bool) (w : World) (hl : IntsR w A n l) (hy : memS l x = y) :
    Calls Try.prog 58 #[.slice A n c, .int .i64 x] w fun e w' => e = .returned (.bool y) ∧ Below w.heap.size w w' := by
  have HL := Lib.hid hl
  have HY := Lib.hid hy
  clear hl hy
  go_enter Try.func58, Try.ntmps58
  go_wp2_with fail
  refine (slices_Index A n c l x _ (HL.out.up (belA))).mono ?_
  rintro e w1 ⟨z, rfl, hz, hb1⟩
  have HZ := Lib.hid hz
  clear hz
  go_wp2_with fail
  go_ret
  exact ⟨ret_bool (by rw [← HY.out, ← HZ.out]), belA⟩
end Go.Proofs.Ytgfakefcmbpboaa
