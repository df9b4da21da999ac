/- Keys: their order; pairs and accounts: how they lie. -/
import Derived.Test.YtbakkpabiknlmaaSzYj
import Derived.Lib.Bytealg
namespace Go.Proofs.Ytbakkpabiknlmaa
open Go.RowKit
set_option linter.unusedSimpArgs false
set_option linter.unusedVariables false

theorem bl_irrefl : ∀ (a : List UInt8), Op.bytesLess a a = false
  | [] => rfl
  | x :: a => by
    have := bl_irrefl a
    simp [Op.bytesLess, this]
theorem bl_trans : ∀ (a b c : List UInt8), Op.bytesLess a b = true → Op.bytesLess b c = true → Op.bytesLess a c = true
  | [], [], _, h, _ => by simp [Op.bytesLess] at h
  | _ :: _, [], _, h, _ => by simp [Op.bytesLess] at h
  | _, _ :: _, [], _, h => by simp [Op.bytesLess] at h
  | [], _ :: _, _ :: _, _, _ => rfl
  | x :: a, y :: b, z :: c, h1, h2 => by
    simp only [Op.bytesLess, Bool.or_eq_true, Bool.and_eq_true, decide_eq_true_eq, beq_iff_eq] at h1 h2 ⊢
    rcases h1 with h1 | ⟨rfl, h1⟩
    · rcases h2 with h2 | ⟨rfl, h2⟩
      · exact .inl (UInt8.lt_trans h1 h2)
      · exact .inl h1
    · rcases h2 with h2 | ⟨rfl, h2⟩
      · exact .inl h2
      · exact .inr ⟨rfl, bl_trans a b c h1 h2⟩
theorem cb_lt : ∀ (a b : List UInt8), Lib.compareBytes a b < 0 ↔ Op.bytesLess a b = true
  | [], [] => by simp [Lib.compareBytes, Op.bytesLess]
  | [], _ :: _ => by simp [Lib.compareBytes, Op.bytesLess]
  | _ :: _, [] => by simp [Lib.compareBytes, Op.bytesLess]
  | x :: a, y :: b => by
    have ih := cb_lt a b
    unfold Lib.compareBytes Op.bytesLess
    by_cases h1 : x < y
    · simp [h1]
    · by_cases h2 : y < x
      · have : x ≠ y := fun h => by subst h; exact UInt8.lt_irrefl _ h2
        simp [h1, h2, this]
      · have : x = y := UInt8.le_antisymm (UInt8.not_lt.1 h2) (UInt8.not_lt.1 h1)
        subst this
        simp [h1, ih]
theorem cb_eq : ∀ (a b : List UInt8), Lib.compareBytes a b = 0 ↔ a = b
  | [], [] => by simp [Lib.compareBytes]
  | [], _ :: _ => by simp [Lib.compareBytes]
  | _ :: _, [] => by simp [Lib.compareBytes]
  | x :: a, y :: b => by
    have ih := cb_eq a b
    unfold Lib.compareBytes
    by_cases h1 : x < y
    · have : x ≠ y := fun h => by subst h; exact UInt8.lt_irrefl _ h1
      simp [h1, this]
    · by_cases h2 : y < x
      · have : x ≠ y := fun h => by subst h; exact UInt8.lt_irrefl _ h2
        simp [h1, h2, this]
      · have : x = y := UInt8.le_antisymm (UInt8.not_lt.1 h2) (UInt8.not_lt.1 h1)
        subst this
        simp [h1, ih]
/-- A key ahead of another one; how two stand. -/
def ltK (a b : ByteArray) : Bool := Op.bytesLess a.toList b.toList
def cmpK (a b : ByteArray) : Int := Lib.compareBytes a.data.toList b.data.toList
theorem bytes_ext {a b : ByteArray} (h : a.toList = b.toList) : a = b := by
  rw [ByteArray.toList_eq, ByteArray.toList_eq] at h
  obtain ⟨⟨x⟩⟩ := a
  obtain ⟨⟨y⟩⟩ := b
  simpa using h
theorem ltK_irrefl (a : ByteArray) : ltK a a = false := bl_irrefl _
theorem ltK_trans {a b c : ByteArray} (h1 : ltK a b = true) (h2 : ltK b c = true) : ltK a c = true := bl_trans _ _ _ h1 h2
theorem cmpK_lt {a b : ByteArray} : cmpK a b < 0 ↔ ltK a b = true := by unfold cmpK ltK; rw [ByteArray.toList_eq, ByteArray.toList_eq]; exact cb_lt _ _
theorem cmpK_eq {a b : ByteArray} : cmpK a b = 0 ↔ a = b := by
  unfold cmpK
  rw [cb_eq]
  constructor
  · intro h; exact bytes_ext (by rw [ByteArray.toList_eq, ByteArray.toList_eq]; exact h)
  · rintro rfl; rfl
theorem cb_swap : ∀ (a b : List UInt8), Op.bytesLess a b = false → Op.bytesLess b a = false → a = b
  | [], [], _, _ => rfl
  | [], _ :: _, h, _ => by simp [Op.bytesLess] at h
  | _ :: _, [], _, h => by simp [Op.bytesLess] at h
  | x :: a, y :: b, h1, h2 => by
    simp only [Op.bytesLess, Bool.or_eq_false_iff, decide_eq_false_iff_not, Bool.and_eq_false_iff, beq_eq_false_iff_ne] at h1 h2
    have e : x = y := UInt8.le_antisymm (UInt8.not_lt.1 h2.1) (UInt8.not_lt.1 h1.1)
    subst e
    have g1 := h1.2.resolve_left (fun h => h rfl)
    have g2 := h2.2.resolve_left (fun h => h rfl)
    rw [cb_swap a b g1 g2]
theorem ltK_tri {a b : ByteArray} (h1 : ltK a b = false) (h2 : ltK b a = false) : a = b := bytes_ext (cb_swap _ _ h1 h2)
set_option maxRecDepth 100000 in
theorem bytealg_CompareString (a b : ByteArray) (w : World) :
    Calls Try.prog 84 #[.string a, .string b] w fun e w' => e = .returned (.int .i64 (cmpK a b)) ∧ w = w' := by
  go_enter Try.func84, Try.ntmps84
  go_wp2
  rw [run_callFunc_extern Try.func87 (by kernel_rfl) (by kernel_rfl) (by kernel_rfl) (e := Extern.BytealgCompare.compare) (by kernel_rfl), Lib.run_compareString]
  simp only [Result.andThen]
  rw [Oper.upon_value]
  go_wp2
  go_ret
  exact ⟨rfl, rfl⟩
set_option maxRecDepth 100000 in
set_option maxHeartbeats 1000000 in
theorem strings_Compare (a b : ByteArray) (w : World) :
    Calls Try.prog 79 #[.string a, .string b] w fun e w' => e = .returned (.int .i64 (cmpK a b)) ∧ w = w' := by
  go_enter Try.func79, Try.ntmps79
  go_wp2_with (go_at_call 84; refine (bytealg_CompareString _ _ _).mono ?_; rintro e w' ⟨rfl, rfl⟩)
  go_ret
  exact ⟨rfl, rfl⟩
set_option maxRecDepth 100000 in
set_option maxHeartbeats 1000000 in
theorem cmp_isNaN_int (x : Int) (w : World) : Calls Try.prog 76 #[.int .i64 x] w fun e w' => e = .returned (.bool false) ∧ w = w' := by
  go_enter Try.func76, Try.ntmps76
  go_wp2
  go_ret
  exact ⟨ret_bool (by simp), rfl⟩
set_option maxRecDepth 100000 in
set_option maxHeartbeats 1000000 in
theorem cmp_Compare_int (a b : Int) (w : World) : Calls Try.prog 68 #[.int .i64 a, .int .i64 b] w fun e w' => e = .returned (.int .i64 (cmp3 a b)) ∧ w = w' := by
  rcases Int.lt_trichotomy a b with h | h | h
  case' inl =>
    have hc : cmp3 a b = -1 := by unfold cmp3; rw [if_pos h]
    have d1 : decide (a < b) = true := by simpa using h
  case' inr.inl =>
    have hc : cmp3 a b = 0 := by unfold cmp3; rw [if_neg (by omega), if_neg (by omega)]
    have d1 : decide (a < b) = false := by simp; omega
    have d2 : decide (b < a) = false := by simp; omega
  case' inr.inr =>
    have hc : cmp3 a b = 1 := by unfold cmp3; rw [if_neg (by omega), if_pos h]
    have d1 : decide (a < b) = false := by simp; omega
    have d2 : decide (b < a) = true := by simpa using h
  all_goals
    have HC := Lib.hid hc
    clear hc h
    go_enter Try.func68, Try.ntmps68
    go_wp2_with (go_at_call 76; refine (cmp_isNaN_int _ _).mono ?_; rintro e w' ⟨rfl, rfl⟩)
    go_ret
    exact ⟨ret_int HC.out.symm, rfl⟩
structure PairD where
  k : ByteArray
  v : ByteArray
instance : Inhabited PairD := ⟨⟨⟨#[]⟩, ⟨#[]⟩⟩⟩
structure AcctD where
  se : Int
  sq : Int
deriving Inhabited
def encP (p : PairD) : List Value := [.string p.k, .string p.v]
def encA (p : AcctD) : List Value := [.int .i64 p.se, .int .i64 p.sq]
theorem encP_len (p : PairD) : (encP p).length = 2 := rfl
theorem encA_len (p : AcctD) : (encA p).length = 2 := rfl
theorem encP_one (p : PairD) : ∀ u ∈ encP p, u.oneCell' = true := by
  intro u hu
  simp only [encP, List.mem_cons, List.not_mem_nil, or_false] at hu
  rcases hu with rfl | rfl <;> rfl
theorem encA_one (p : AcctD) : ∀ u ∈ encA p, u.oneCell' = true := by
  intro u hu
  simp only [encA, List.mem_cons, List.not_mem_nil, or_false] at hu
  rcases hu with rfl | rfl <;> rfl
def pth (l : List PairD) (i : Nat) : PairD := l.getD i default
def ath (l : List AcctD) (i : Nat) : AcctD := l.getD i default
def PairsR (w : World) (A : Option Addr) (n : Nat) (l : List PairD) : Prop := l.length = n ∧ RowV w A n 2 (flat encP l)
def AcctsR (w : World) (A : Option Addr) (n : Nat) (l : List AcctD) : Prop := l.length = n ∧ RowV w A n 2 (flat encA l)
theorem PairsR.up {w w' : World} {A n l} (h : PairsR w A n l) (hb : Below w.heap.size w w') : PairsR w' A n l := ⟨h.1, h.2.up hb⟩
theorem AcctsR.up {w w' : World} {A n l} (h : AcctsR w A n l) (hb : Below w.heap.size w w') : AcctsR w' A n l := ⟨h.1, h.2.up hb⟩
theorem PairsR.at {w : World} {A n l} (h : PairsR w A n l) (hn : 0 < n) : ∃ b off, A = some ⟨b, off, none⟩ ∧ b < w.heap.size ∧ ∀ j, j < n → w.cell? ⟨b, off + j * 2, none⟩ = some (.string (pth l j).k) ∧ w.cell? ⟨b, off + j * 2 + 1, none⟩ = some (.string (pth l j).v) := by
  obtain ⟨b, off, e, hb, hc⟩ := h.2.2.2 hn
  refine ⟨b, off, e, hb, fun j hj => ?_⟩
  have hat : ∀ r u, r < 2 → (encP (pth l j))[r]? = some u → w.cell? ⟨b, off + j * 2 + r, none⟩ = some u := fun r u hr hu => by
    rw [Nat.add_assoc]
    exact hc _ u (by rw [flat_at encP_len l j r (by rw [h.1]; exact hj) hr]; exact hu)
  exact ⟨hat 0 _ (by omega) rfl, hat 1 _ (by omega) rfl⟩
theorem AcctsR.at {w : World} {A n l} (h : AcctsR w A n l) (hn : 0 < n) : ∃ b off, A = some ⟨b, off, none⟩ ∧ b < w.heap.size ∧ ∀ j, j < n → w.cell? ⟨b, off + j * 2, none⟩ = some (.int .i64 (ath l j).se) ∧ w.cell? ⟨b, off + j * 2 + 1, none⟩ = some (.int .i64 (ath l j).sq) := by
  obtain ⟨b, off, e, hb, hc⟩ := h.2.2.2 hn
  refine ⟨b, off, e, hb, fun j hj => ?_⟩
  have hat : ∀ r u, r < 2 → (encA (ath l j))[r]? = some u → w.cell? ⟨b, off + j * 2 + r, none⟩ = some u := fun r u hr hu => by
    rw [Nat.add_assoc]
    exact hc _ u (by rw [flat_at encA_len l j r (by rw [h.1]; exact hj) hr]; exact hu)
  exact ⟨hat 0 _ (by omega) rfl, hat 1 _ (by omega) rfl⟩
end Go.Proofs.Ytbakkpabiknlmaa
