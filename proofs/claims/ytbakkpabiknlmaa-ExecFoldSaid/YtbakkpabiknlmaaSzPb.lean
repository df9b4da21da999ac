/- Batches: what may be, at the program, at the reference; All, Batch, at the program. -/
import Derived.Test.YtbakkpabiknlmaaSzNt
namespace Go.Proofs.Ytbakkpabiknlmaa
open Go.RowKit
set_option linter.unusedSimpArgs false
set_option linter.unusedVariables false

noncomputable def runT : List TxD → List PairD → List AcctD → List PairD × List AcctD
  | [], l, q => (l, q)
  | x :: xs, l, q => runT xs (doP l q x) (doA l q x)
noncomputable def runN : List TxD → List PairD → List AcctD → Nat
  | [], _, _ => 0
  | x :: xs, l, q => (if okT l q x = true then 1 else 0) + runN xs (doP l q x) (doA l q x)
theorem runT_may : ∀ (xs : List TxD) {l : List PairD} {q : List AcctD}, MayT l q → MayT (runT xs l q).1 (runT xs l q).2
  | [], _, _, h => h
  | x :: xs, _, _, h => runT_may xs h.do_
theorem runT_step {tx : List TxD} {k : Nat} (hk : k < tx.length) (l : List PairD) (q : List AcctD) : runT (tx.drop k) l q = runT (tx.drop (k + 1)) (doP l q (xth tx k)) (doA l q (xth tx k)) ∧
    runN (tx.drop k) l q = (if okT l q (xth tx k) = true then 1 else 0) + runN (tx.drop (k + 1)) (doP l q (xth tx k)) (doA l q (xth tx k)) := by
  have e := drop_getD tx k hk
  have e2 : tx.getD k default = xth tx k := rfl
  rw [e2] at e
  rw [e]
  exact ⟨rfl, rfl⟩
def BmT (b : BatchD) : Prop := 1 ≤ b.au ∧ b.au ≤ 16 ∧ 1 ≤ b.n ∧ b.n ≤ 1099511627776 ∧ 1 ≤ b.tx.length ∧ b.tx.length ≤ 8 ∧ ∀ j, j < b.tx.length → txS (xth b.tx j) = true
noncomputable def bmT (b : BatchD) : Bool := dec (BmT b)
theorem bmT_iff {b : BatchD} : bmT b = true ↔ BmT b := dec_iff
set_option maxRecDepth 100000 in
set_option maxHeartbeats 1000000 in
theorem batch_May1 (x : TxD) (y : Bool) (w : World) (hy : txS x = y) : Calls Try.prog 58 #[.agg #[.int .i64 x.se, .int .i64 x.sq, .string x.k, .string x.v]] w fun e w' => e = .returned (.bool (!y)) ∧ Below w.heap.size w w' := by
  go_enter Try.func58, Try.ntmps58
  go_wp2_with fail
  refine (batch_MayTx x y _ hy).mono ?_
  rintro e w1 ⟨rfl, hb1⟩
  go_wp2_with fail
  go_ret
  exact ⟨rfl, by (repeat (first | (with_reducible exact Below.refl _ _) | (with_reducible assumption) | (with_reducible apply bel_alloc) | (with_reducible apply bel_drew) | (with_reducible apply bel_drewN) | (with_reducible refine bel_trans ?_ (by with_reducible assumption)) | (with_reducible refine bel_trans ?_ (HF.out _)) | ((with_reducible refine bel_set3 ?_ ?_); rotate_left; omega)))⟩
/-- The first one that may not be; -1: all may be. -/
def FirstX (l : List TxD) (n : Nat) (y : Int) : Prop := (y = -1 ∧ ∀ j, j < n → txS (xth l j) = true) ∨ ∃ k : Nat, y = (k : Int) ∧ k < n ∧ txS (xth l k) = false
set_option maxRecDepth 100000 in
set_option maxHeartbeats 2000000 in
theorem slices_IndexFunc_X (A : Option Addr) (n c : Nat) (l : List TxD) (w : World) (hl : TxsR w A n l) :
    Calls Try.prog 69 #[.slice A n c, .func (.func 58) #[] #[]] w fun e w' => ∃ y, e = .returned (.int .i64 y) ∧ FirstX l n y ∧ Below w.heap.size w w' := by
  have HL := Lib.hid hl
  have hnn : n ≤ 9223372036854775807 := hl.2.2.1
  clear hl
  go_enter Try.func69, Try.ntmps69
  go_wp2_with fail
  go_loopw [8] (fun ix wr => ∃ k : Nat, k ≤ n ∧ ix = .int .i64 k ∧ Hid (∀ j, j < k → txS (xth l j) = true) ∧ Below w.heap.size w wr) (fun ix _ => n - (intOf ix).toNat)
  case atStart => exact ⟨0, Nat.zero_le _, rfl, Lib.hid (fun j hj => absurd hj (by omega)), Below.refl _ _⟩
  case round =>
    obtain ⟨k, hk, rfl, HG, hbw⟩ := hrel
    (obtain ⟨wk, hwk⟩ : ∃ x, x = wr := ⟨_, rfl⟩); subst hwk
    by_cases hlt : k < n
    · obtain ⟨b, off, rfl, hb, hc⟩ := (HL.out.up hbw).at (by omega)
      obtain ⟨c0, c1, c2, c3⟩ := hc k hlt
      clear hc
      cases hy : txS (xth l k)
      · have HY := Lib.hid hy
        clear hy
        go_wp2_with (go_at_call 58; refine (batch_May1 (xth l k) false _ HY.out).mono ?_; rintro e w1 ⟨rfl, hb1⟩)
        go_ret
        exact ⟨k, rfl, .inr ⟨k, rfl, hlt, HY.out⟩, bel_trans hbw hb1⟩
      · have HY := Lib.hid hy
        clear hy
        go_wp2_with (go_at_call 58; refine (batch_May1 (xth l k) true _ HY.out).mono ?_; rintro e w1 ⟨rfl, hb1⟩)
        (first | (go_round; (case rel => exact ⟨k + 1, by omega, by go_num, Lib.hid (fun j hj => by (rcases Nat.lt_or_ge j k with h | h; exact HG.out j h; (obtain rfl : j = k := by omega); exact HY.out)), bel_trans hbw hb1⟩); (case measure => (simp [intOf] <;> omega))) | (go_roundw; (case rel => exact ⟨k + 1, by omega, by go_num, Lib.hid (fun j hj => by (rcases Nat.lt_or_ge j k with h | h; exact HG.out j h; (obtain rfl : j = k := by omega); exact HY.out)), bel_trans hbw hb1⟩); (case measure => (simp [intOf] <;> omega))) | (refine ⟨?_, by simp [intOf] <;> omega⟩; (repeat apply Exists.intro); refine ⟨?rel, ?fr⟩; (case fr => ((repeat' apply And.intro) <;> rfl)); (case rel => exact ⟨k + 1, by omega, by go_num, Lib.hid (fun j hj => by (rcases Nat.lt_or_ge j k with h | h; exact HG.out j h; (obtain rfl : j = k := by omega); exact HY.out)), bel_trans hbw hb1⟩)))
    · obtain rfl : k = n := by omega
      go_wp2_with fail
      go_ret
      exact ⟨-1, rfl, .inl ⟨rfl, HG.out⟩, hbw⟩
set_option maxRecDepth 100000 in
set_option maxHeartbeats 1000000 in
theorem slices_ContainsFunc_X (A : Option Addr) (n c : Nat) (l : List TxD) (w : World) (hl : TxsR w A n l) :
    Calls Try.prog 57 #[.slice A n c, .func (.func 58) #[] #[]] w fun e w' => ∃ y : Int, e = .returned (.bool (decide (0 ≤ y))) ∧ FirstX l n y ∧ Below w.heap.size w w' := by
  have HL := Lib.hid hl
  clear hl
  go_enter Try.func57, Try.ntmps57
  go_wp2_with fail
  refine (slices_IndexFunc_X A n c l _ (HL.out.up (by (repeat (first | (with_reducible exact Below.refl _ _) | (with_reducible assumption) | (with_reducible apply bel_alloc) | (with_reducible apply bel_drew) | (with_reducible apply bel_drewN) | (with_reducible refine bel_trans ?_ (by with_reducible assumption)) | (with_reducible refine bel_trans ?_ (HF.out _)) | ((with_reducible refine bel_set3 ?_ ?_); rotate_left; omega)))))).mono ?_
  rintro e w1 ⟨y, rfl, hf, hb1⟩
  go_wp2_with fail
  go_ret
  exact ⟨y, rfl, hf, by (repeat (first | (with_reducible exact Below.refl _ _) | (with_reducible assumption) | (with_reducible apply bel_alloc) | (with_reducible apply bel_drew) | (with_reducible apply bel_drewN) | (with_reducible refine bel_trans ?_ (by with_reducible assumption)) | (with_reducible refine bel_trans ?_ (HF.out _)) | ((with_reducible refine bel_set3 ?_ ?_); rotate_left; omega)))⟩
set_option maxRecDepth 100000 in
set_option maxHeartbeats 2000000 in
theorem batch_May (b : BatchD) (A : Option Addr) (n c : Nat) (y : Bool) (w : World) (hl : TxsR w A n b.tx) (hy : bmT b = y) : Calls Try.prog 39 #[.agg #[.int .i64 b.au, .int .i64 b.n, .slice A n c]] w fun e w' => e = .returned (.bool y) ∧ Below w.heap.size w w' := by
  have HL := Lib.hid hl
  have HN := Lib.hid hl.1
  have HY := Lib.hid hy
  clear hl hy
  obtain ⟨au, hau⟩ : ∃ au, b.au = au := ⟨_, rfl⟩
  obtain ⟨bn, hbn⟩ : ∃ bn, b.n = bn := ⟨_, rfl⟩
  rw [hau, hbn]
  have HAU := Lib.hid hau
  have HBN := Lib.hid hbn
  clear hau hbn
  have hno : ¬ (1 ≤ au ∧ au ≤ 16 ∧ 1 ≤ bn ∧ bn ≤ 1099511627776 ∧ 1 ≤ n ∧ n ≤ 8) → y = false := fun h => by
    rw [← HY.out]
    cases hb : bmT b
    · rfl
    · have := bmT_iff.1 hb
      exfalso; apply h
      rw [← HAU.out, ← HBN.out, ← HN.out]
      exact ⟨this.1, this.2.1, this.2.2.1, this.2.2.2.1, this.2.2.2.2.1, this.2.2.2.2.2.1⟩
  have HNO := Lib.hid hno
  clear hno
  go_enter Try.func39, Try.ntmps39
  by_cases h1 : 1 ≤ au
  case' neg => have hb1 : decide (au < 1) = true := by simp; omega
  case' pos =>
    have hb1 : decide (au < 1) = false := by simp; omega
    by_cases h2 : au ≤ 16
    case' neg => have hb2 : decide (16 < au) = true := by simp; omega
    case' pos =>
      have hb2 : decide (16 < au) = false := by simp; omega
      by_cases h3 : 1 ≤ bn
      case' neg => have hb3 : decide (bn < 1) = true := by simp; omega
      case' pos =>
        have hb3 : decide (bn < 1) = false := by simp; omega
        by_cases h4 : bn ≤ 1099511627776
        case' neg => have hb4 : decide (1099511627776 < bn) = true := by simp; omega
        case' pos =>
          have hb4 : decide (1099511627776 < bn) = false := by simp; omega
          by_cases h5 : 1 ≤ n
          case' neg => have hb5 : decide ((n : Int) < 1) = true := by simp; omega
          case' pos =>
            have hb5 : decide ((n : Int) < 1) = false := by simp; omega
            by_cases h6 : n ≤ 8
            case' neg => have hb6 : decide ((8 : Int) < (n : Int)) = true := by simp; omega
            case' pos =>
              have hb6 : decide ((8 : Int) < (n : Int)) = false := by simp; omega
              have hok := And.intro h1 (And.intro h2 (And.intro h3 (And.intro h4 (And.intro h5 h6))))
              have HOK := Lib.hid hok
              clear hok
              go_wp2_with fail
              refine (slices_ContainsFunc_X A n c b.tx _ (HL.out.up (by (repeat (first | (with_reducible exact Below.refl _ _) | (with_reducible assumption) | (with_reducible apply bel_alloc) | (with_reducible apply bel_drew) | (with_reducible apply bel_drewN) | (with_reducible refine bel_trans ?_ (by with_reducible assumption)) | (with_reducible refine bel_trans ?_ (HF.out _)) | ((with_reducible refine bel_set3 ?_ ?_); rotate_left; omega)))))).mono ?_
              rintro e w1 ⟨z, rfl, hf, hbel⟩
              have HF := Lib.hid hf
              clear hf
              go_wp2_with fail
              go_ret
              refine ⟨ret_bool ?_, by (repeat (first | (with_reducible exact Below.refl _ _) | (with_reducible assumption) | (with_reducible apply bel_alloc) | (with_reducible apply bel_drew) | (with_reducible apply bel_drewN) | (with_reducible refine bel_trans ?_ (by with_reducible assumption)) | (with_reducible refine bel_trans ?_ (HF.out _)) | ((with_reducible refine bel_set3 ?_ ?_); rotate_left; omega)))⟩
              rw [← HY.out, Bool.eq_iff_iff, bmT_iff]
              obtain ⟨a1, a2, a3, a4, a5, a6⟩ := HOK.out
              constructor
              · intro hz
                have hz2 : ¬ 0 ≤ z := by simpa using hz
                rcases HF.out with ⟨_, hall⟩ | ⟨k, hk, _⟩
                · exact ⟨by rw [HAU.out]; exact a1, by rw [HAU.out]; exact a2, by rw [HBN.out]; exact a3, by rw [HBN.out]; exact a4, by rw [HN.out]; exact a5, by rw [HN.out]; exact a6, by rw [HN.out]; exact hall⟩
                · omega
              · intro hB
                rcases HF.out with ⟨hm, _⟩ | ⟨k, hk, hkn, hkf⟩
                · subst hm; decide
                · have := hB.2.2.2.2.2.2 k (by rw [HN.out]; exact hkn)
                  rw [hkf] at this; cases this
  all_goals
    go_wp2_with fail
    go_ret
    exact ⟨ret_bool (by rw [HNO.out (by omega)]), by (repeat (first | (with_reducible exact Below.refl _ _) | (with_reducible assumption) | (with_reducible apply bel_alloc) | (with_reducible apply bel_drew) | (with_reducible apply bel_drewN) | (with_reducible refine bel_trans ?_ (by with_reducible assumption)) | (with_reducible refine bel_trans ?_ (HF.out _)) | ((with_reducible refine bel_set3 ?_ ?_); rotate_left; omega)))⟩
end Go.Proofs.Ytbakkpabiknlmaa
