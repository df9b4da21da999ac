/- Joined: Na Nb Nc Nd Ne Nf Ng Nh Ni Nj0 Nk0 Nl Nm No Np Nr Ns Nv Nt Pb Pc Qe. -/
import Derived.Test.YtgfakefcmbpboaaGreatJ0
import Derived.Lib.Bytealg
import Derived.Deep.Cut
import Derived.Deep.CutRange
import Derived.ChangeArms
import Derived.SizedLaws
namespace Go.Proofs.YtgfakefcmbpboaaGreat
set_option linter.unusedSimpArgs false
set_option linter.unusedVariables false

/-! part Na -/
section
open Go.RowKit
theorem bl_irrefl : ∀ (a : List UInt8), Op.bytesLess a a = false
  | [] => rfl
  | x :: a => by
    have := bl_irrefl a
    simp [Op.bytesLess, this]
theorem bl_trans : ∀ (a b c : List UInt8), Op.bytesLess a b = true → Op.bytesLess b c = true → Op.bytesLess a c = true
  | [], [], _, h, _ => by simp [Op.bytesLess] at h
  | _ :: _, [], _, h, _ => by simp [Op.bytesLess] at h
  | _, _ :: _, [], _, h => by simp [Op.bytesLess] at h
  | [], _ :: _, _ :: _, _, _ => rfl
  | x :: a, y :: b, z :: c, h1, h2 => by
    simp only [Op.bytesLess, Bool.or_eq_true, Bool.and_eq_true, decide_eq_true_eq, beq_iff_eq] at h1 h2 ⊢
    rcases h1 with h1 | ⟨rfl, h1⟩
    · rcases h2 with h2 | ⟨rfl, h2⟩
      · exact .inl (UInt8.lt_trans h1 h2)
      · exact .inl h1
    · rcases h2 with h2 | ⟨rfl, h2⟩
      · exact .inl h2
      · exact .inr ⟨rfl, bl_trans a b c h1 h2⟩
theorem cb_lt : ∀ (a b : List UInt8), Lib.compareBytes a b < 0 ↔ Op.bytesLess a b = true
  | [], [] => by simp [Lib.compareBytes, Op.bytesLess]
  | [], _ :: _ => by simp [Lib.compareBytes, Op.bytesLess]
  | _ :: _, [] => by simp [Lib.compareBytes, Op.bytesLess]
  | x :: a, y :: b => by
    have ih := cb_lt a b
    unfold Lib.compareBytes Op.bytesLess
    by_cases h1 : x < y
    · simp [h1]
    · by_cases h2 : y < x
      · have : x ≠ y := fun h => by subst h; exact UInt8.lt_irrefl _ h2
        simp [h1, h2, this]
      · have : x = y := UInt8.le_antisymm (UInt8.not_lt.1 h2) (UInt8.not_lt.1 h1)
        subst this
        simp [h1, ih]
theorem cb_eq : ∀ (a b : List UInt8), Lib.compareBytes a b = 0 ↔ a = b
  | [], [] => by simp [Lib.compareBytes]
  | [], _ :: _ => by simp [Lib.compareBytes]
  | _ :: _, [] => by simp [Lib.compareBytes]
  | x :: a, y :: b => by
    have ih := cb_eq a b
    unfold Lib.compareBytes
    by_cases h1 : x < y
    · have : x ≠ y := fun h => by subst h; exact UInt8.lt_irrefl _ h1
      simp [h1, this]
    · by_cases h2 : y < x
      · have : x ≠ y := fun h => by subst h; exact UInt8.lt_irrefl _ h2
        simp [h1, h2, this]
      · have : x = y := UInt8.le_antisymm (UInt8.not_lt.1 h2) (UInt8.not_lt.1 h1)
        subst this
        simp [h1, ih]
/-- A key ahead of another one; how two stand. -/
def ltK (a b : ByteArray) : Bool := Op.bytesLess a.toList b.toList
def cmpK (a b : ByteArray) : Int := Lib.compareBytes a.data.toList b.data.toList
theorem bytes_ext {a b : ByteArray} (h : a.toList = b.toList) : a = b := by
  rw [ByteArray.toList_eq, ByteArray.toList_eq] at h
  obtain ⟨⟨x⟩⟩ := a
  obtain ⟨⟨y⟩⟩ := b
  simpa using h
theorem ltK_irrefl (a : ByteArray) : ltK a a = false := bl_irrefl _
theorem ltK_trans {a b c : ByteArray} (h1 : ltK a b = true) (h2 : ltK b c = true) : ltK a c = true := bl_trans _ _ _ h1 h2
theorem cmpK_lt {a b : ByteArray} : cmpK a b < 0 ↔ ltK a b = true := by unfold cmpK ltK; rw [ByteArray.toList_eq, ByteArray.toList_eq]; exact cb_lt _ _
theorem cmpK_eq {a b : ByteArray} : cmpK a b = 0 ↔ a = b := by
  unfold cmpK
  rw [cb_eq]
  constructor
  · intro h; exact bytes_ext (by rw [ByteArray.toList_eq, ByteArray.toList_eq]; exact h)
  · rintro rfl; rfl
theorem cb_swap : ∀ (a b : List UInt8), Op.bytesLess a b = false → Op.bytesLess b a = false → a = b
  | [], [], _, _ => rfl
  | [], _ :: _, h, _ => by simp [Op.bytesLess] at h
  | _ :: _, [], _, h => by simp [Op.bytesLess] at h
  | x :: a, y :: b, h1, h2 => by
    simp only [Op.bytesLess, Bool.or_eq_false_iff, decide_eq_false_iff_not, Bool.and_eq_false_iff, beq_eq_false_iff_ne] at h1 h2
    have e : x = y := UInt8.le_antisymm (UInt8.not_lt.1 h2.1) (UInt8.not_lt.1 h1.1)
    subst e
    have g1 := h1.2.resolve_left (fun h => h rfl)
    have g2 := h2.2.resolve_left (fun h => h rfl)
    rw [cb_swap a b g1 g2]
theorem ltK_tri {a b : ByteArray} (h1 : ltK a b = false) (h2 : ltK b a = false) : a = b := bytes_ext (cb_swap _ _ h1 h2)
theorem eqK {a b : ByteArray} : (a.toList == b.toList) = decide (a = b) := by
  rw [Bool.eq_iff_iff, beq_iff_eq, decide_eq_true_eq]
  exact ⟨bytes_ext, fun h => by rw [h]⟩
set_option maxRecDepth 100000 in
set_option maxHeartbeats 1000000 in
theorem cmp_isNaN_int (x : Int) (w : World) : Calls Tryz.prog 157 #[.int .i64 x] w fun e w' => e = .returned (.bool false) ∧ w = w' := by
  go_enter Tryz.func157, Tryz.ntmps157
  go_wp2
  go_ret
  exact ⟨ret_bool (by simp), rfl⟩
set_option maxRecDepth 100000 in
set_option maxHeartbeats 1000000 in
theorem cmp_Compare_int (a b : Int) (w : World) : Calls Tryz.prog 141 #[.int .i64 a, .int .i64 b] w fun e w' => e = .returned (.int .i64 (cmp3 a b)) ∧ w = w' := by
  rcases Int.lt_trichotomy a b with h | h | h
  case' inl =>
    have hc : cmp3 a b = -1 := by unfold cmp3; rw [if_pos h]
    have d1 : decide (a < b) = true := by simpa using h
  case' inr.inl =>
    have hc : cmp3 a b = 0 := by unfold cmp3; rw [if_neg (by omega), if_neg (by omega)]
    have d1 : decide (a < b) = false := by simp; omega
    have d2 : decide (b < a) = false := by simp; omega
  case' inr.inr =>
    have hc : cmp3 a b = 1 := by unfold cmp3; rw [if_neg (by omega), if_pos h]
    have d1 : decide (a < b) = false := by simp; omega
    have d2 : decide (b < a) = true := by simpa using h
  all_goals
    have HC := Lib.hid hc
    clear hc h
    go_enter Tryz.func141, Tryz.ntmps141
    go_wp2_with (go_at_call 157; refine (cmp_isNaN_int _ _).mono ?_; rintro e w' ⟨rfl, rfl⟩)
    go_ret
    exact ⟨ret_int HC.out.symm, rfl⟩
/-! ### pairs, accounts -/
structure PairD where
  k : ByteArray
  v : ByteArray
instance : Inhabited PairD := ⟨⟨⟨#[]⟩, ⟨#[]⟩⟩⟩
structure AcctD where
  se : Int
  sq : Int
deriving Inhabited
def encP (p : PairD) : List Value := [.string p.k, .string p.v]
def encA (p : AcctD) : List Value := [.int .i64 p.se, .int .i64 p.sq]
theorem encP_len (p : PairD) : (encP p).length = 2 := rfl
theorem encA_len (p : AcctD) : (encA p).length = 2 := rfl
theorem encP_one (p : PairD) : ∀ u ∈ encP p, u.oneCell' = true := by
  intro u hu
  simp only [encP, List.mem_cons, List.not_mem_nil, or_false] at hu
  rcases hu with rfl | rfl <;> rfl
theorem encA_one (p : AcctD) : ∀ u ∈ encA p, u.oneCell' = true := by
  intro u hu
  simp only [encA, List.mem_cons, List.not_mem_nil, or_false] at hu
  rcases hu with rfl | rfl <;> rfl
def pth (l : List PairD) (i : Nat) : PairD := l.getD i default
def ath (l : List AcctD) (i : Nat) : AcctD := l.getD i default
def PairsR (w : World) (A : Option Addr) (n : Nat) (l : List PairD) : Prop := l.length = n ∧ RowV w A n 2 (flat encP l)
def AcctsR (w : World) (A : Option Addr) (n : Nat) (l : List AcctD) : Prop := l.length = n ∧ RowV w A n 2 (flat encA l)
theorem PairsR.up {w w' : World} {A n l} (h : PairsR w A n l) (hb : Below w.heap.size w w') : PairsR w' A n l := ⟨h.1, h.2.up hb⟩
theorem AcctsR.up {w w' : World} {A n l} (h : AcctsR w A n l) (hb : Below w.heap.size w w') : AcctsR w' A n l := ⟨h.1, h.2.up hb⟩
theorem PairsR.at {w : World} {A n l} (h : PairsR w A n l) (hn : 0 < n) : ∃ b off, A = some ⟨b, off, none⟩ ∧ b < w.heap.size ∧ ∀ j, j < n → w.cell? ⟨b, off + j * 2, none⟩ = some (.string (pth l j).k) ∧ w.cell? ⟨b, off + j * 2 + 1, none⟩ = some (.string (pth l j).v) := by
  obtain ⟨b, off, e, hb, hc⟩ := h.2.2.2 hn
  refine ⟨b, off, e, hb, fun j hj => ?_⟩
  have hat : ∀ r u, r < 2 → (encP (pth l j))[r]? = some u → w.cell? ⟨b, off + j * 2 + r, none⟩ = some u := fun r u hr hu => by
    rw [Nat.add_assoc]
    exact hc _ u (by rw [flat_at encP_len l j r (by rw [h.1]; exact hj) hr]; exact hu)
  exact ⟨hat 0 _ (by omega) rfl, hat 1 _ (by omega) rfl⟩
theorem AcctsR.at {w : World} {A n l} (h : AcctsR w A n l) (hn : 0 < n) : ∃ b off, A = some ⟨b, off, none⟩ ∧ b < w.heap.size ∧ ∀ j, j < n → w.cell? ⟨b, off + j * 2, none⟩ = some (.int .i64 (ath l j).se) ∧ w.cell? ⟨b, off + j * 2 + 1, none⟩ = some (.int .i64 (ath l j).sq) := by
  obtain ⟨b, off, e, hb, hc⟩ := h.2.2.2 hn
  refine ⟨b, off, e, hb, fun j hj => ?_⟩
  have hat : ∀ r u, r < 2 → (encA (ath l j))[r]? = some u → w.cell? ⟨b, off + j * 2 + r, none⟩ = some u := fun r u hr hu => by
    rw [Nat.add_assoc]
    exact hc _ u (by rw [flat_at encA_len l j r (by rw [h.1]; exact hj) hr]; exact hu)
  exact ⟨hat 0 _ (by omega) rfl, hat 1 _ (by omega) rfl⟩
end
/-! part Nb -/
section
open Go.RowKit
structure TxD where
  se : Int
  sq : Int
  k : ByteArray
  v : ByteArray
def idS (n : Int) : Bool := decide (1 ≤ n ∧ n ≤ 1099511627776)
theorem idS_iff {n : Int} : idS n = true ↔ (1 ≤ n ∧ n ≤ 1099511627776) := by simp [idS]
set_option maxRecDepth 100000 in
set_option maxHeartbeats 1000000 in
theorem ref4_id (n : Int) (y : Bool) (w : World) (hy : idS n = y) : Calls Tryz.prog 105 #[.int .i64 n] w fun e w' => e = .returned (.bool y) ∧ w = w' := by
  subst hy
  go_enter Tryz.func105, Tryz.ntmps105
  go_wp2
  all_goals (go_ret; refine ⟨ret_bool ?_, rfl⟩; rw [Bool.eq_iff_iff, idS_iff]; simp; try omega)
theorem toList_nil {a : ByteArray} : a.toList = [] ↔ a.size = 0 := by
  rw [ByteArray.toList_eq]
  obtain ⟨⟨x⟩⟩ := a
  simp [ByteArray.size]
def txS (x : TxD) : Bool := decide (1 ≤ x.se ∧ x.se ≤ 1099511627776 ∧ 1 ≤ x.sq ∧ x.sq ≤ 1099511627776 ∧ 1 ≤ x.k.size ∧ x.k.size ≤ 16 ∧ x.v.size ≤ 32)
theorem txS_iff {x : TxD} : txS x = true ↔ (1 ≤ x.se ∧ x.se ≤ 1099511627776 ∧ 1 ≤ x.sq ∧ x.sq ≤ 1099511627776 ∧ 1 ≤ x.k.size ∧ x.k.size ≤ 16 ∧ x.v.size ≤ 32) := by simp [txS]
set_option maxRecDepth 100000 in
set_option maxHeartbeats 1000000 in
theorem batch_MayTx (x : TxD) (y : Bool) (w : World) (hy : txS x = y) : Calls Tryz.prog 75 #[.agg #[.int .i64 x.se, .int .i64 x.sq, .string x.k, .string x.v]] w fun e w' => e = .returned (.bool y) ∧ Below w.heap.size w w' := by
  subst hy
  by_cases h0 : x.k.toList = []
  · have h1 := toList_nil.1 h0
    go_enter Tryz.func75, Tryz.ntmps75
    go_wp2_with fail
    all_goals (go_ret; refine ⟨ret_bool ?_, by (repeat (first | (with_reducible exact Below.refl _ _) | (with_reducible assumption) | (with_reducible apply bel_alloc) | (with_reducible apply bel_drew) | (with_reducible apply bel_drewN) | (with_reducible refine bel_trans ?_ (by with_reducible assumption)) | (with_reducible refine bel_trans ?_ (HF.out _)) | (with_reducible refine bel_set ?_ (by simp) _) | (with_reducible refine bel_set ?_ (by simp; omega) _) | (with_reducible refine bel_set ?_ (by omega) _)))⟩; rw [Bool.eq_iff_iff, txS_iff]; simp [h0]; try omega)
  · have h1 : ¬ x.k.size = 0 := fun h => h0 (toList_nil.2 h)
    go_enter Tryz.func75, Tryz.ntmps75
    go_wp2_with fail
    all_goals (go_ret; refine ⟨ret_bool ?_, by (repeat (first | (with_reducible exact Below.refl _ _) | (with_reducible assumption) | (with_reducible apply bel_alloc) | (with_reducible apply bel_drew) | (with_reducible apply bel_drewN) | (with_reducible refine bel_trans ?_ (by with_reducible assumption)) | (with_reducible refine bel_trans ?_ (HF.out _)) | (with_reducible refine bel_set ?_ (by simp) _) | (with_reducible refine bel_set ?_ (by simp; omega) _) | (with_reducible refine bel_set ?_ (by omega) _)))⟩; rw [Bool.eq_iff_iff, txS_iff]; simp [h0]; try omega)
set_option maxRecDepth 100000 in
set_option maxHeartbeats 1000000 in
theorem ref4_Tx (x : TxD) (y : Bool) (w : World) (hy : txS x = y) : Calls Tryz.prog 60 #[.agg #[.int .i64 x.se, .int .i64 x.sq, .string x.k, .string x.v]] w fun e w' => e = .returned (.bool y) ∧ Below w.heap.size w w' := by
  subst hy
  go_enter Tryz.func60, Tryz.ntmps60
  go_wp2_with (go_at_call 105; refine (ref4_id _ _ _ rfl).mono ?_; rintro e w' ⟨rfl, rfl⟩)
  all_goals (go_ret; refine ⟨ret_bool ?_, by (repeat (first | (with_reducible exact Below.refl _ _) | (with_reducible assumption) | (with_reducible apply bel_alloc) | (with_reducible apply bel_drew) | (with_reducible apply bel_drewN) | (with_reducible refine bel_trans ?_ (by with_reducible assumption)) | (with_reducible refine bel_trans ?_ (HF.out _)) | (with_reducible refine bel_set ?_ (by simp) _) | (with_reducible refine bel_set ?_ (by simp; omega) _) | (with_reducible refine bel_set ?_ (by omega) _)))⟩; go_light; rw [Bool.eq_iff_iff, txS_iff]; simp_all [idS]; try omega)
def pairS (p : PairD) : Bool := decide (1 ≤ p.k.size ∧ p.k.size ≤ 16 ∧ 1 ≤ p.v.size ∧ p.v.size ≤ 32)
theorem pairS_iff {p : PairD} : pairS p = true ↔ (1 ≤ p.k.size ∧ p.k.size ≤ 16 ∧ 1 ≤ p.v.size ∧ p.v.size ≤ 32) := by simp [pairS]
def GoodP (l : List PairD) (k : Nat) : Prop := ∀ j, j < k → pairS (pth l j) = true ∧ (0 < j → ltK (pth l (j - 1)).k (pth l j).k = true)
def MayP (l : List PairD) : Prop := l.length ≤ 4096 ∧ GoodP l l.length
noncomputable def mayP (l : List PairD) : Bool := dec (MayP l)
theorem mayP_iff {l : List PairD} : mayP l = true ↔ MayP l := dec_iff
theorem GoodP.succ {l : List PairD} {k : Nat} (h : GoodP l k) (h1 : pairS (pth l k) = true) (h2 : 0 < k → ltK (pth l (k - 1)).k (pth l k).k = true) : GoodP l (k + 1) := fun j hj => by
  rcases Nat.lt_or_ge j k with h3 | h3
  · exact h j h3
  · obtain rfl : j = k := by omega
    exact ⟨h1, h2⟩
end
/-! part Nc -/
section
open Go.RowKit
def acctS (a : AcctD) : Bool := idS a.se && idS a.sq
def GoodA (l : List AcctD) (k : Nat) : Prop := ∀ j, j < k → acctS (ath l j) = true ∧ (0 < j → (ath l (j - 1)).se < (ath l j).se)
def MayA (l : List AcctD) : Prop := l.length ≤ 4096 ∧ GoodA l l.length
theorem GoodA.succ {l : List AcctD} {k : Nat} (h : GoodA l k) (h1 : acctS (ath l k) = true) (h2 : 0 < k → (ath l (k - 1)).se < (ath l k).se) : GoodA l (k + 1) := fun j hj => by
  rcases Nat.lt_or_ge j k with h3 | h3
  · exact h j h3
  · obtain rfl : j = k := by omega
    exact ⟨h1, h2⟩
def MayT (l : List PairD) (q : List AcctD) : Prop := MayP l ∧ MayA q
noncomputable def mayT (l : List PairD) (q : List AcctD) : Bool := dec (MayT l q)
theorem mayT_iff {l : List PairD} {q : List AcctD} : mayT l q = true ↔ MayT l q := dec_iff
theorem not_goodA {l : List AcctD} {k n : Nat} (hl : l.length = n) (hk : k < n) (h : acctS (ath l k) = false ∨ (0 < k ∧ ¬ (ath l (k - 1)).se < (ath l k).se)) : ¬ MayA l := fun hm => by
  have := hm.2 k (by rw [hl]; exact hk)
  rcases h with h | ⟨h, h2⟩
  · rw [this.1] at h; cases h
  · exact h2 (this.2 h)
end
/-! part Nd -/
section
open Go.RowKit
theorem not_goodP {l : List PairD} {k n : Nat} (hl : l.length = n) (hk : k < n) (h : pairS (pth l k) = false ∨ (0 < k ∧ ltK (pth l (k - 1)).k (pth l k).k = false)) : ¬ MayP l := fun hm => by
  have := hm.2 k (by rw [hl]; exact hk)
  rcases h with h | ⟨h, h2⟩
  · rw [this.1] at h; cases h
  · rw [this.2 h] at h2; cases h2
theorem nil_false {a : ByteArray} (h : ¬ a.size = 0) : (a.toList == []) = false := by
  rw [beq_eq_false_iff_ne]; exact fun g => h (toList_nil.1 g)
theorem nil_true {a : ByteArray} (h : a.size = 0) : (a.toList == []) = true := by
  rw [beq_iff_eq]; exact toList_nil.2 h
end
/-! part Ne -/
section
open Go.RowKit
def cnt {α : Type} (p : α → Bool) : List α → Nat
  | [] => 0
  | x :: l => if p x = true then cnt p l + 1 else 0
theorem cnt_le {α : Type} (p : α → Bool) : ∀ l : List α, cnt p l ≤ l.length
  | [] => Nat.le_refl _
  | x :: l => by unfold cnt; split; have := cnt_le p l; simp; omega; simp
theorem cnt_eq {α : Type} [Inhabited α] (p : α → Bool) : ∀ (l : List α) (lo : Nat), lo ≤ l.length → (∀ t, t < lo → p (l.getD t default) = true) → (lo < l.length → p (l.getD lo default) = false) → cnt p l = lo
  | [], lo, h, _, _ => by have h2 : lo = 0 := by simpa using h
                          subst h2; rfl
  | x :: l, 0, _, _, h => by
    have := h (by simp)
    unfold cnt
    rw [if_neg (by rw [show p x = false from this]; simp)]
  | x :: l, lo + 1, h, h1, h2 => by
    unfold cnt
    rw [if_pos (show p x = true from h1 0 (by omega)), cnt_eq p l lo (by simpa using h) (fun t ht => h1 (t + 1) (by omega)) (fun ht => h2 (by simpa using ht))]
def ltI (a b : Int) : Bool := decide (a < b)
theorem ltI_trans {a b c : Int} (h1 : ltI a b = true) (h2 : ltI b c = true) : ltI a c = true := by simp [ltI] at *; omega
theorem ltI_no {a b c : Int} (h1 : ltI a b = true) (h2 : ltI a c = false) : ltI b c = false := by simp [ltI] at *; omega
theorem ltK_no {a b c : ByteArray} (h1 : ltK a b = true) (h2 : ltK a c = false) : ltK b c = false := by
  cases h : ltK b c
  · rfl
  · rw [ltK_trans h1 h] at h2; cases h2
theorem cmpI_lt {a b : Int} : cmp3 a b < 0 ↔ ltI a b = true := by unfold cmp3 ltI; rw [decide_eq_true_eq]; split; omega; split <;> omega
theorem cmpI_eq {a b : Int} : cmp3 a b = 0 ↔ a = b := by unfold cmp3; split; omega; split <;> omega
def kposP (l : List PairD) (key : ByteArray) : Nat := cnt (fun x => ltK x.k key) l
noncomputable def khasP (l : List PairD) (key : ByteArray) : Bool := dec (kposP l key < l.length ∧ (pth l (kposP l key)).k = key)
def SortedP (l : List PairD) : Prop := ∀ i j, i < j → j < l.length → ltK (pth l i).k (pth l j).k = true
def CutP (l : List PairD) (n : Nat) (key : ByteArray) (lo hi : Nat) : Prop := (∀ t, t < lo → ltK (pth l t).k key = true) ∧ ∀ t, hi ≤ t → t < n → ltK (pth l t).k key = false
theorem CutP.pos {l : List PairD} {n : Nat} {key : ByteArray} {lo : Nat} (h : CutP l n key lo lo) (hn : l.length = n) (hlo : lo ≤ n) : kposP l key = lo :=
  cnt_eq _ l lo (by omega) (fun t ht => by rw [List.getD_eq_getElem?_getD] at *; have := h.1 t ht; exact this) (fun ht => h.2 lo (Nat.le_refl _) (by omega))
def kposA (l : List AcctD) (key : Int) : Nat := cnt (fun x => ltI x.se key) l
noncomputable def khasA (l : List AcctD) (key : Int) : Bool := dec (kposA l key < l.length ∧ (ath l (kposA l key)).se = key)
def SortedA (l : List AcctD) : Prop := ∀ i j, i < j → j < l.length → ltI (ath l i).se (ath l j).se = true
def CutA (l : List AcctD) (n : Nat) (key : Int) (lo hi : Nat) : Prop := (∀ t, t < lo → ltI (ath l t).se key = true) ∧ ∀ t, hi ≤ t → t < n → ltI (ath l t).se key = false
theorem CutA.pos {l : List AcctD} {n : Nat} {key : Int} {lo : Nat} (h : CutA l n key lo lo) (hn : l.length = n) (hlo : lo ≤ n) : kposA l key = lo :=
  cnt_eq _ l lo (by omega) (fun t ht => by rw [List.getD_eq_getElem?_getD] at *; have := h.1 t ht; exact this) (fun ht => h.2 lo (Nat.le_refl _) (by omega))
theorem MayP.sorted {l : List PairD} (h : MayP l) : SortedP l := by
  intro i j hij hj
  induction j with
  | zero => omega
  | succ j ih =>
    have h1 := (h.2 (j + 1) hj).2 (by omega)
    rw [Nat.add_sub_cancel] at h1
    rcases Nat.lt_or_ge i j with h2 | h2
    · exact ltK_trans (ih h2 (by omega)) h1
    · obtain rfl : i = j := by omega
      exact h1
theorem MayA.sorted {l : List AcctD} (h : MayA l) : SortedA l := by
  intro i j hij hj
  induction j with
  | zero => omega
  | succ j ih =>
    have h1 := (h.2 (j + 1) hj).2 (by omega)
    rw [Nat.add_sub_cancel] at h1
    rcases Nat.lt_or_ge i j with h2 | h2
    · exact ltI_trans (ih h2 (by omega)) (by simp [ltI, h1])
    · obtain rfl : i = j := by omega
      simp [ltI, h1]
end
/-! part Nf -/
section
open Go.RowKit
end
/-! part Ng -/
section
open Go.RowKit
theorem khasP_lt {l : List PairD} {key : ByteArray} {lo : Nat} (hlo : kposP l key = lo) (h : khasP l key = true) : lo < l.length ∧ (pth l lo).k = key := by
  have := dec_iff.1 h; rw [hlo] at this; exact this
theorem khasA_lt {l : List AcctD} {key : Int} {lo : Nat} (hlo : kposA l key = lo) (h : khasA l key = true) : lo < l.length ∧ (ath l lo).se = key := by
  have := dec_iff.1 h; rw [hlo] at this; exact this
/-- What a key has; whether it is there. -/
noncomputable def getB (l : List PairD) (key : ByteArray) : ByteArray := if khasP l key = true then (pth l (kposP l key)).v else ⟨#[]⟩
noncomputable def tgB (l : List PairD) (q : List AcctD) (key : ByteArray) : ByteArray := if mayT l q = true then getB l key else ⟨#[]⟩
noncomputable def tgE (l : List PairD) (q : List AcctD) (key : ByteArray) : Int := if mayT l q = true then (if khasP l key = true then 0 else 3) else 1
end
/-! part Nh -/
section
open Go.RowKit
theorem flat_setP (v : ByteArray) : ∀ (l : List PairD) (i : Nat), i < l.length → (flat encP l).set (i * 2 + 1) (.string v) = flat encP (l.set i ⟨(pth l i).k, v⟩)
  | [], i, h => absurd h (by simp)
  | x :: l, 0, _ => by simp [flat, encP, pth]
  | x :: l, i + 1, h => by
    have ih := flat_setP v l i (by simpa using h)
    have e : ∀ (y : PairD) (m : List PairD), flat encP (y :: m) = .string y.k :: .string y.v :: flat encP m := fun y m => by simp [flat, encP]
    rw [List.set_cons_succ, e, e, show pth (x :: l) (i + 1) = pth l i from rfl, ← ih]
    rw [show (i + 1) * 2 + 1 = (i * 2 + 1) + 2 by omega]
    rfl
theorem flat_setA (v : Int) : ∀ (l : List AcctD) (i : Nat), i < l.length → (flat encA l).set (i * 2 + 1) (.int .i64 v) = flat encA (l.set i ⟨(ath l i).se, v⟩)
  | [], i, h => absurd h (by simp)
  | x :: l, 0, _ => by simp [flat, encA, ath]
  | x :: l, i + 1, h => by
    have ih := flat_setA v l i (by simpa using h)
    have e : ∀ (y : AcctD) (m : List AcctD), flat encA (y :: m) = .int .i64 y.se :: .int .i64 y.sq :: flat encA m := fun y m => by simp [flat, encA]
    rw [List.set_cons_succ, e, e, show ath (x :: l) (i + 1) = ath l i from rfl, ← ih]
    rw [show (i + 1) * 2 + 1 = (i * 2 + 1) + 2 by omega]
    rfl
theorem wp_app_runR {P : Program} (w : World) {o : Oper} {a : Act} {K : Act → World → Prop} {Q : Exit → Act → World → Prop} (s x : Operand) (t t' : TypeId)
    (ho : o.op = .call { callee := .builtin .append, args := #[s, x], argTypes := #[t, t'] }) (v u : Value) (hs : a.eval s = v) (hx : a.eval x = u) {v' : Value} {w' : World}
    (hr : (Builtin.append_ #[t, t'] o.type #[v, u]).run P w = .ok v' w') (h : K (a.put o.dst v') w') : o.wp P a w K Q := Lib.wp_append_run w s x t t' ho v u hs hx v' w' hr h
theorem step_app_runR {P : Program} {ops : Array Oper} {o : Oper} {a : Act} {w : World} {K : Act → World → Prop} {Q : Exit → Act → World → Prop} {E : Prop}
    (hg : o.guard = none) (s x : Operand) (t t' : TypeId) (hop : o.op = Op.call { callee := Callee.builtin Builtin.append, args := #[s, x], argTypes := #[t, t'] })
    (v u : Value) (hd : a.eval s = v) (hx : a.eval x = u) {v' : Value} {w' : World} (hr : (Builtin.append_ #[t, t'] o.type #[v, u]).run P w = .ok v' w') (hK : K (a.put o.dst v') w') :
    if Region.wanted o (yielded ops a.tmps) = true then Oper.wp P o a w K Q else E := by
  have hw : Region.wanted o (yielded ops a.tmps) = true := by simp [Region.wanted, hg]
  rw [if_pos hw]
  exact wp_app_runR w s x t t' hop v u hd hx hr hK
end
/-! part Ni -/
section
open Go.RowKit
def Disj (v u : Value) : Prop := ∀ g, v.ownBlock = some g → u.ownBlock ≠ some g
theorem Disj.symm {v u : Value} (h : Disj v u) : Disj u v := fun g h1 h2 => h g h2 h1
theorem disj_later {w w' : World} {B B' k k' n n' : Nat} {t t' : TypeId} {v u : Value} {xs ys : List Value} (h : w.ownsRow B t k v n xs) (h' : w'.ownsRow B' t' k' u n' ys) (hB : w.heap.size ≤ B') : Disj v u := fun g h1 h2 => by
  have := (own_lt h g h1).2
  have := (own_lt h' g h2).1
  omega
theorem own_setD {w : World} {B k n : Nat} {t : TypeId} {v : Value} {xs : List Value} (h : w.ownsRow B t k v n xs) {b o : Nat} (hp : v.ownBlock ≠ some b) (u : Value) : (w.setCell ⟨b, o, none⟩ u).ownsRow B t k v n xs := own_of_heap h fun g hg => Below.heap_setCell _ _ _ _ (fun e => hp (by rw [hg, e]))
theorem own_grown {w w' : World} {B k n : Nat} {t : TypeId} {v u : Value} {xs : List Value} (h : w.ownsRow B t k v n xs) (hg : w.grownBy w' u.ownBlock) (hd : Disj v u) : w'.ownsRow B t k v n xs := own_of_heap h fun g hgg => hg.block g (own_lt h g hgg).2 (fun e => hd g hgg e.symm)
theorem Blk.grown2 {w w' : World} {g : Nat} {t : TypeId} {cs : List Value} {u : Value} (h : Blk w g t cs) (hb : w.grownBy w' u.ownBlock) (hne : u.ownBlock ≠ some g) : Blk w' g t cs := h.of_heap (hb.block g h.lt (fun e => hne e.symm))
end
/-! part Nj0 -/
section
open Go.RowKit
noncomputable def lastA (q : List AcctD) (s : Int) : Int := if khasA q s = true then (ath q (kposA q s)).sq else 0
/-- A transaction takes effect. -/
def OkT (l : List PairD) (q : List AcctD) (x : TxD) : Prop := txS x = true ∧ x.sq = lastA q x.se + 1 ∧ ¬ (khasA q x.se = false ∧ 4096 ≤ q.length) ∧ ¬ (khasP l x.k = false ∧ ¬ x.v.size = 0 ∧ 4096 ≤ l.length)
noncomputable def okT (l : List PairD) (q : List AcctD) (x : TxD) : Bool := dec (OkT l q x)
noncomputable def setA (q : List AcctD) (x : TxD) : List AcctD := if khasA q x.se = true then q.set (kposA q x.se) ⟨x.se, x.sq⟩ else q.take (kposA q x.se) ++ [⟨x.se, x.sq⟩] ++ q.drop (kposA q x.se)
noncomputable def setP (l : List PairD) (x : TxD) : List PairD :=
  if x.v.size = 0 then (if khasP l x.k = true then l.take (kposP l x.k) ++ l.drop (kposP l x.k + 1) else l)
  else (if khasP l x.k = true then l.set (kposP l x.k) ⟨x.k, x.v⟩ else l.take (kposP l x.k) ++ [⟨x.k, x.v⟩] ++ l.drop (kposP l x.k))
noncomputable def doA (l : List PairD) (q : List AcctD) (x : TxD) : List AcctD := if okT l q x = true then setA q x else q
noncomputable def doP (l : List PairD) (q : List AcctD) (x : TxD) : List PairD := if okT l q x = true then setP l x else l
end
/-! part Nk0 -/
section
open Go.RowKit
variable {tb : TypeId} {rs : List Value}
theorem grown_below {w w' : World} {C : Nat} {v : Value} (h : w.grownBy w' v.ownBlock) (hv : ∀ g, v.ownBlock = some g → C ≤ g) (hC : C ≤ w.heap.size) : Below C w w' :=
  ⟨h.os, h.tape, h.output, h.size, fun k hk => h.block k (by omega) (fun e => by have := hv k e.symm; omega)⟩
theorem Below.set1 {w : World} {C b o : Nat} (hb : C ≤ b) (u : Value) : Below C w (w.setCell ⟨b, o, none⟩ u) := (Below.refl C w).setCell hb u
theorem flat_insA (q : List AcctD) (y : AcctD) (i : Nat) : (flat encA q).take (i * 2) ++ encA y ++ (flat encA q).drop (i * 2) = flat encA (q.take i ++ [y] ++ q.drop i) := by
  rw [flat_app, flat_app, flat_one, flat_take encA_len, flat_drop encA_len]
theorem flat_insP (q : List PairD) (y : PairD) (i : Nat) : (flat encP q).take (i * 2) ++ encP y ++ (flat encP q).drop (i * 2) = flat encP (q.take i ++ [y] ++ q.drop i) := by
  rw [flat_app, flat_app, flat_one, flat_take encP_len, flat_drop encP_len]
theorem ins_len {α : Type} (q : List α) (y : α) (i : Nat) (h : i ≤ q.length) : (q.take i ++ [y] ++ q.drop i).length = q.length + 1 := by simp; omega
theorem ath_ins (q : List AcctD) (y : AcctD) (i : Nat) (h : i ≤ q.length) : ath (q.take i ++ [y] ++ q.drop i) i = y := by
  unfold ath
  have e : (q.take i).length = i := by simp; omega
  simp [List.getD_eq_getElem?_getD, List.getElem?_append, e]
theorem set_ins (q : List AcctD) (y z : AcctD) (i : Nat) (h : i ≤ q.length) : (q.take i ++ [y] ++ q.drop i).set i z = q.take i ++ [z] ++ q.drop i := by
  have e : (q.take i).length = i := by simp; omega
  rw [List.append_assoc, List.append_assoc, List.set_append, if_neg (by omega), e]
  simp
def DOF (a : Act) (w : World) : Prop := False
/-- What else is kept: all but the box and the two rows. -/
structure DoK (w w' : World) (bt : Nat) (vp va vp' va' : Value) : Prop where
  os : w'.os = w.os
  tape : w'.tape = w.tape
  output : w'.output = w.output
  size : w.heap.size ≤ w'.heap.size
  block : ∀ k, k < w.heap.size → k ≠ bt → vp.ownBlock ≠ some k → va.ownBlock ≠ some k → w'.heap[k]? = w.heap[k]?
  np : ∀ k, k < w.heap.size → vp.ownBlock ≠ some k → vp'.ownBlock ≠ some k
  na : ∀ k, k < w.heap.size → va.ownBlock ≠ some k → va'.ownBlock ≠ some k
theorem DoK.of_below {w w' : World} {bt : Nat} {vp va : Value} (h : Below w.heap.size w w') : DoK w w' bt vp va vp va :=
  ⟨h.os, h.tape, h.output, h.size, fun k hk _ _ _ => h.block k hk, fun _ _ h => h, fun _ _ h => h⟩
theorem DoK.trans {w w1 w2 : World} {bt : Nat} {vp va vp1 va1 vp2 va2 : Value} (h : DoK w w1 bt vp va vp1 va1) (k : DoK w1 w2 bt vp1 va1 vp2 va2) : DoK w w2 bt vp va vp2 va2 :=
  ⟨k.os.trans h.os, k.tape.trans h.tape, k.output.trans h.output, Nat.le_trans h.size k.size,
    fun j hj h1 h2 h3 => (k.block j (Nat.lt_of_lt_of_le hj h.size) h1 (h.np j hj h2) (h.na j hj h3)).trans (h.block j hj h1 h2 h3),
    fun j hj h2 => k.np j (Nat.lt_of_lt_of_le hj h.size) (h.np j hj h2), fun j hj h3 => k.na j (Nat.lt_of_lt_of_le hj h.size) (h.na j hj h3)⟩
theorem DoK.up {w w1 w2 : World} {bt : Nat} {vp va vp1 va1 : Value} (h : DoK w w1 bt vp va vp1 va1) (k : Below w1.heap.size w1 w2) : DoK w w2 bt vp va vp1 va1 := h.trans (.of_below k)
theorem DoK.newA {w w' : World} {bt o : Nat} {vp va va' u : Value} (hg : w.grownBy w' va.ownBlock) (hat : va'.ownBlock = va.ownBlock ∨ ∃ g, va'.ownBlock = some g ∧ w.heap.size ≤ g) : DoK w (w'.setCell ⟨bt, o, none⟩ u) bt vp va vp va' :=
  ⟨hg.os, hg.tape, hg.output, by simpa using hg.size, fun k hk h1 _ h3 => (Below.heap_setCell _ _ _ _ h1).trans (hg.block k hk (fun e => h3 e.symm)), fun _ _ h => h, fun k hk h => by
    rcases hat with e | ⟨g, e, hl⟩
    · rw [e]; exact h
    · rw [e]; intro e2; injection e2 with e2; omega⟩
theorem DoK.newP {w w' : World} {bt o : Nat} {vp va vp' u : Value} (hg : w.grownBy w' vp.ownBlock) (hat : vp'.ownBlock = vp.ownBlock ∨ ∃ g, vp'.ownBlock = some g ∧ w.heap.size ≤ g) : DoK w (w'.setCell ⟨bt, o, none⟩ u) bt vp va vp' va :=
  ⟨hg.os, hg.tape, hg.output, by simpa using hg.size, fun k hk h1 h3 _ => (Below.heap_setCell _ _ _ _ h1).trans (hg.block k hk (fun e => h3 e.symm)), fun k hk h => by
    rcases hat with e | ⟨g, e, hl⟩
    · rw [e]; exact h
    · rw [e]; intro e2; injection e2 with e2; omega, fun _ _ h => h⟩
theorem DoK.putA {w : World} {bt g o : Nat} {vp va u : Value} (hg : va.ownBlock = some g) : DoK w (w.setCell ⟨g, o, none⟩ u) bt vp va vp va :=
  ⟨rfl, rfl, rfl, by simp, fun k _ _ _ h3 => Below.heap_setCell _ _ _ _ (fun e => h3 (by rw [hg, e])), fun _ _ h => h, fun _ _ h => h⟩
theorem DoK.putP {w : World} {bt g o : Nat} {vp va u : Value} (hg : vp.ownBlock = some g) : DoK w (w.setCell ⟨g, o, none⟩ u) bt vp va vp va :=
  ⟨rfl, rfl, rfl, by simp, fun k _ _ h3 _ => Below.heap_setCell _ _ _ _ (fun e => h3 (by rw [hg, e])), fun _ _ h => h, fun _ _ h => h⟩
theorem DoK.blk {w w' : World} {bt g : Nat} {vp va vp' va' : Value} {t : TypeId} {cs : List Value} (h : DoK w w' bt vp va vp' va') (hb : Blk w g t cs) (h1 : g ≠ bt) (h2 : vp.ownBlock ≠ some g) (h3 : va.ownBlock ≠ some g) : Blk w' g t cs := hb.of_heap (h.block g hb.lt h1 h2 h3)
end
/-! part Nl -/
section
set_option linter.unusedSectionVars false

section
variable {α K : Type} [Inhabited α] {f : α → K} {lt : K → K → Bool}
def Srt (f : α → K) (lt : K → K → Bool) (l : List α) : Prop := l.Pairwise (fun a b => lt (f a) (f b) = true)
theorem cnt_take (p : α → Bool) : ∀ (l : List α), ∀ x ∈ l.take (cnt p l), p x = true
  | [], x, h => by simp at h
  | y :: l, x, h => by
    unfold cnt at h
    split at h
    · next hy =>
      rw [List.take_succ_cons, List.mem_cons] at h
      rcases h with rfl | h
      · exact hy
      · exact cnt_take p l x h
    · simp at h
theorem cnt_stop (p : α → Bool) : ∀ (l : List α), cnt p l < l.length → p (l.getD (cnt p l) default) = false
  | [], h => by simp at h
  | y :: l, h => by
    unfold cnt at h ⊢
    split
    · next hy =>
      rw [if_pos hy] at h
      exact cnt_stop p l (by simpa using h)
    · next hy => simpa using hy
theorem drop_getD (l : List α) (k : Nat) (h : k < l.length) : l.drop k = l.getD k default :: l.drop (k + 1) := by
  rw [List.drop_eq_getElem_cons h]; simp [h]
/-- What stands below a key, and what above. -/
theorem srt_split (irr : ∀ a, lt a a = false) (tr : ∀ {a b c}, lt a b = true → lt b c = true → lt a c = true) (tri : ∀ {a b}, lt a b = false → lt b a = false → a = b)
    (l : List α) (hs : Srt f lt l) (key : K) : ∃ A B, (∀ a ∈ A, lt (f a) key = true) ∧ (∀ b ∈ B, lt key (f b) = true) ∧ A = l.take (cnt (fun x => lt (f x) key) l) ∧
      ((cnt (fun x => lt (f x) key) l < l.length ∧ f (l.getD (cnt (fun x => lt (f x) key) l) default) = key ∧ B = l.drop (cnt (fun x => lt (f x) key) l + 1) ∧ l = A ++ (l.getD (cnt (fun x => lt (f x) key) l) default :: B)) ∨
       (¬ (cnt (fun x => lt (f x) key) l < l.length ∧ f (l.getD (cnt (fun x => lt (f x) key) l) default) = key) ∧ B = l.drop (cnt (fun x => lt (f x) key) l) ∧ l = A ++ B)) := by
  obtain ⟨k, hk⟩ : ∃ k, k = cnt (fun x => lt (f x) key) l := ⟨_, rfl⟩
  have h1 := cnt_take (fun x => lt (f x) key) l
  have h2 := cnt_stop (fun x => lt (f x) key) l
  rw [← hk] at h1 h2 ⊢
  have hdrop : ∀ b ∈ l.drop (k + 1), lt (f (l.getD k default)) (f b) = true := fun b hb => by
    by_cases hkl : k < l.length
    · have e := drop_getD l k hkl
      have h3 : (l.drop k).Pairwise (fun a b => lt (f a) (f b) = true) := hs.sublist (List.drop_sublist _ _)
      rw [e, List.pairwise_cons] at h3
      exact h3.1 b hb
    · rw [List.drop_of_length_le (by omega)] at hb; simp at hb
  by_cases hh : k < l.length ∧ f (l.getD k default) = key
  · refine ⟨l.take k, l.drop (k + 1), h1, fun b hb => ?_, rfl, .inl ⟨hh.1, hh.2, rfl, ?_⟩⟩
    · have := hdrop b hb; rw [hh.2] at this; exact this
    · rw [← drop_getD l k hh.1, List.take_append_drop]
  · refine ⟨l.take k, l.drop k, h1, fun b hb => ?_, rfl, .inr ⟨hh, rfl, (List.take_append_drop _ _).symm⟩⟩
    by_cases hkl : k < l.length
    · have h3 := h2 hkl
      have h4 : lt key (f (l.getD k default)) = true := by
        cases h : lt key (f (l.getD k default))
        · exact absurd ⟨hkl, tri h3 h⟩ hh
        · rfl
      rw [drop_getD l k hkl, List.mem_cons] at hb
      rcases hb with rfl | hb
      · exact h4
      · exact tr h4 (hdrop b hb)
    · rw [List.drop_of_length_le (by omega)] at hb; simp at hb
theorem srt_mid (tr : ∀ {a b c}, lt a b = true → lt b c = true → lt a c = true) {A B : List α} {key : K} {z : α} (hA : ∀ a ∈ A, lt (f a) key = true) (hB : ∀ b ∈ B, lt key (f b) = true) (hz : f z = key) (hs : Srt f lt (A ++ B)) : Srt f lt (A ++ z :: B) := by
  unfold Srt at hs ⊢
  rw [List.pairwise_append] at hs ⊢
  refine ⟨hs.1, List.pairwise_cons.2 ⟨fun b hb => ?_, hs.2.1⟩, fun a ha b hb => ?_⟩
  · have := hB b hb; rw [← hz] at this; exact this
  · rcases List.mem_cons.1 hb with rfl | hb
    · have := hA a ha; rw [← hz] at this; exact this
    · exact hs.2.2 a ha b hb
theorem srt_out {A B : List α} {z : α} (hs : Srt f lt (A ++ z :: B)) : Srt f lt (A ++ B) := by
  unfold Srt at hs ⊢
  rw [List.pairwise_append] at hs ⊢
  exact ⟨hs.1, (List.pairwise_cons.1 hs.2.1).2, fun a ha b hb => hs.2.2 a ha b (List.mem_cons_of_mem _ hb)⟩
end
theorem set_app {α : Type} (A B : List α) (x z : α) (k : Nat) (h : A.length = k) : (A ++ x :: B).set k z = A ++ z :: B := by
  subst h; simp
theorem srt_getD {α K : Type} [Inhabited α] {f : α → K} {lt : K → K → Bool} {l : List α} : Srt f lt l ↔ ∀ i j, i < j → j < l.length → lt (f (l.getD i default)) (f (l.getD j default)) = true := by
  unfold Srt
  rw [List.pairwise_iff_getElem]
  constructor
  · intro h i j hij hj
    have := h i j (by omega) hj hij
    simpa [hj, show i < l.length by omega] using this
  · intro h i j hi hj hij
    have := h i j hij hj
    simpa [hi, hj] using this
theorem mem_getD {α : Type} [Inhabited α] {l : List α} {P : α → Prop} : (∀ j, j < l.length → P (l.getD j default)) ↔ ∀ x ∈ l, P x := by
  constructor
  · intro h x hx
    obtain ⟨j, hj, rfl⟩ := List.mem_iff_getElem.1 hx
    have := h j hj
    simpa [hj] using this
  · intro h j hj
    have := h (l[j]) (List.getElem_mem hj)
    simpa [hj] using this
/-- What a row of pairs may be, in other words. -/
theorem MayP.iff {l : List PairD} : MayP l ↔ l.length ≤ 4096 ∧ (∀ p ∈ l, pairS p = true) ∧ Srt PairD.k ltK l := by
  constructor
  · intro h
    exact ⟨h.1, (mem_getD (P := fun p => pairS p = true)).1 fun j hj => (h.2 j hj).1, srt_getD.2 h.sorted⟩
  · rintro ⟨h1, h2, h3⟩
    refine ⟨h1, fun j hj => ⟨(mem_getD (P := fun p => pairS p = true)).2 h2 j hj, fun h0 => ?_⟩⟩
    exact srt_getD.1 h3 (j - 1) j (by omega) hj
theorem MayA.iff {q : List AcctD} : MayA q ↔ q.length ≤ 4096 ∧ (∀ a ∈ q, acctS a = true) ∧ Srt AcctD.se ltI q := by
  constructor
  · intro h
    exact ⟨h.1, (mem_getD (P := fun a => acctS a = true)).1 fun j hj => (h.2 j hj).1, srt_getD.2 h.sorted⟩
  · rintro ⟨h1, h2, h3⟩
    refine ⟨h1, fun j hj => ⟨(mem_getD (P := fun a => acctS a = true)).2 h2 j hj, fun h0 => ?_⟩⟩
    have := srt_getD.1 h3 (j - 1) j (by omega) hj
    exact of_decide_eq_true this
theorem ltI_irr (a : Int) : ltI a a = false := by simp [ltI]
theorem ltI_tri {a b : Int} (h1 : ltI a b = false) (h2 : ltI b a = false) : a = b := by simp [ltI] at h1 h2; omega
theorem splitP {l : List PairD} (hs : Srt PairD.k ltK l) (key : ByteArray) : ∃ A B, (∀ a ∈ A, ltK a.k key = true) ∧ (∀ b ∈ B, ltK key b.k = true) ∧ A = l.take (kposP l key) ∧ A.length = kposP l key ∧
      ((khasP l key = true ∧ (pth l (kposP l key)).k = key ∧ B = l.drop (kposP l key + 1) ∧ l = A ++ (pth l (kposP l key) :: B)) ∨ (khasP l key = false ∧ B = l.drop (kposP l key) ∧ l = A ++ B)) := by
  obtain ⟨A, B, h1, h2, h3, h4⟩ := srt_split (f := PairD.k) ltK_irrefl ltK_trans ltK_tri l hs key
  refine ⟨A, B, h1, h2, h3, by rw [h3, List.length_take]; have := cnt_le (fun x : PairD => ltK x.k key) l; unfold kposP; omega, ?_⟩
  rcases h4 with ⟨a, b, c, d⟩ | ⟨a, b, c⟩
  · exact .inl ⟨(dec_true ⟨a, b⟩).symm, b, c, d⟩
  · exact .inr ⟨(dec_false a).symm, b, c⟩
theorem splitA {l : List AcctD} (hs : Srt AcctD.se ltI l) (key : Int) : ∃ A B, (∀ a ∈ A, ltI a.se key = true) ∧ (∀ b ∈ B, ltI key b.se = true) ∧ A = l.take (kposA l key) ∧ A.length = kposA l key ∧
      ((khasA l key = true ∧ (ath l (kposA l key)).se = key ∧ B = l.drop (kposA l key + 1) ∧ l = A ++ (ath l (kposA l key) :: B)) ∨ (khasA l key = false ∧ B = l.drop (kposA l key) ∧ l = A ++ B)) := by
  obtain ⟨A, B, h1, h2, h3, h4⟩ := srt_split (f := AcctD.se) ltI_irr ltI_trans ltI_tri l hs key
  refine ⟨A, B, h1, h2, h3, by rw [h3, List.length_take]; have := cnt_le (fun x : AcctD => ltI x.se key) l; unfold kposA; omega, ?_⟩
  rcases h4 with ⟨a, b, c, d⟩ | ⟨a, b, c⟩
  · exact .inl ⟨(dec_true ⟨a, b⟩).symm, b, c, d⟩
  · exact .inr ⟨(dec_false a).symm, b, c⟩
theorem ne_of_lt {a b : ByteArray} (h : ltK a b = true) : a ≠ b := fun e => by subst e; rw [ltK_irrefl] at h; cases h
theorem neI_of_lt {a b : Int} (h : ltI a b = true) : a ≠ b := fun e => by subst e; rw [ltI_irr] at h; cases h
/-- What a row of pairs holds behind a transaction; it is sorted as before; how long it is. -/
theorem setP_say {l : List PairD} (hs : Srt PairD.k ltK l) (x : TxD) :
    Srt PairD.k ltK (setP l x) ∧ (∀ p, p ∈ setP l x ↔ (p ∈ l ∧ p.k ≠ x.k) ∨ (x.v.size ≠ 0 ∧ p = ⟨x.k, x.v⟩)) ∧
    (setP l x).length ≤ l.length + (if khasP l x.k = false ∧ ¬ x.v.size = 0 then 1 else 0) := by
  obtain ⟨A, B, hA, hB, eA, lA, h⟩ := splitP hs x.k
  have nA : ∀ p ∈ A, p.k ≠ x.k := fun p hp => ne_of_lt (hA p hp)
  have nB : ∀ p ∈ B, p.k ≠ x.k := fun p hp e => ne_of_lt (hB p hp) e.symm
  have hAB : Srt PairD.k ltK (A ++ B) := by
    rcases h with ⟨_, _, _, e⟩ | ⟨_, _, e⟩
    · rw [e] at hs; exact srt_out hs
    · rw [e] at hs; exact hs
  have inAB : ∀ p, p ∈ A ++ B ↔ (p ∈ l ∧ p.k ≠ x.k) := fun p => by
    constructor
    · intro hp
      refine ⟨?_, ?_⟩
      · rcases h with ⟨_, _, _, e⟩ | ⟨_, _, e⟩ <;> rw [e] <;> simp at hp ⊢
        · rcases hp with hp | hp
          · exact .inl hp
          · exact .inr (.inr hp)
        · exact hp
      · rcases List.mem_append.1 hp with hp | hp
        · exact nA p hp
        · exact nB p hp
    · rintro ⟨hp, hk⟩
      rcases h with ⟨_, e1, _, e⟩ | ⟨_, _, e⟩ <;> rw [e] at hp <;> simp at hp ⊢
      · rcases hp with hp | hp | hp
        · exact .inl hp
        · exfalso; apply hk; rw [hp]; exact e1
        · exact .inr hp
      · exact hp
  have hz : Srt PairD.k ltK (A ++ (⟨x.k, x.v⟩ : PairD) :: B) := srt_mid (f := PairD.k) (lt := ltK) (key := x.k) ltK_trans hA hB rfl hAB
  have inZ : ∀ p, p ∈ A ++ (⟨x.k, x.v⟩ : PairD) :: B ↔ (p ∈ l ∧ p.k ≠ x.k) ∨ p = ⟨x.k, x.v⟩ := fun p => by
    rw [← inAB p]
    simp only [List.mem_append, List.mem_cons]
    constructor
    · rintro (h | h | h)
      · exact .inl (.inl h)
      · exact .inr h
      · exact .inl (.inr h)
    · rintro ((h | h) | h)
      · exact .inl h
      · exact .inr (.inr h)
      · exact .inr (.inl h)
  by_cases hv : x.v.size = 0
  · rcases h with ⟨hh, e1, eB, e⟩ | ⟨hh, eB, e⟩
    · have es : setP l x = A ++ B := by unfold setP; rw [if_pos hv, if_pos hh, ← eA, ← eB]
      rw [es]
      refine ⟨hAB, fun p => ?_, ?_⟩
      · rw [inAB p]; simp [hv]
      · have := congrArg List.length e
        simp at this ⊢; omega
    · have es : setP l x = l := by unfold setP; rw [if_pos hv, if_neg (by rw [hh]; simp)]
      rw [es]
      refine ⟨hs, fun p => ?_, by omega⟩
      rw [← inAB p, ← e]; simp [hv]
  · rcases h with ⟨hh, e1, eB, e⟩ | ⟨hh, eB, e⟩
    · have es : setP l x = A ++ (⟨x.k, x.v⟩ : PairD) :: B := by
        unfold setP
        rw [if_neg hv, if_pos hh]
        conv => lhs; arg 1; rw [e]
        exact set_app _ _ _ _ _ lA
      rw [es]
      refine ⟨hz, fun p => ?_, ?_⟩
      · rw [inZ p]; simp [hv]
      · have := congrArg List.length e
        simp at this ⊢; omega
    · have es : setP l x = A ++ (⟨x.k, x.v⟩ : PairD) :: B := by
        unfold setP
        rw [if_neg hv, if_neg (by rw [hh]; simp), ← eA, ← eB]
        simp
      rw [es]
      refine ⟨hz, fun p => ?_, ?_⟩
      · rw [inZ p]; simp [hv]
      · have := congrArg List.length e
        simp [hh, hv] at this ⊢; omega
theorem setA_say {q : List AcctD} (hs : Srt AcctD.se ltI q) (x : TxD) :
    Srt AcctD.se ltI (setA q x) ∧ (∀ p, p ∈ setA q x ↔ (p ∈ q ∧ p.se ≠ x.se) ∨ p = ⟨x.se, x.sq⟩) ∧ (setA q x).length ≤ q.length + (if khasA q x.se = false then 1 else 0) := by
  obtain ⟨A, B, hA, hB, eA, lA, h⟩ := splitA hs x.se
  have nA : ∀ p ∈ A, p.se ≠ x.se := fun p hp => neI_of_lt (hA p hp)
  have nB : ∀ p ∈ B, p.se ≠ x.se := fun p hp e => neI_of_lt (hB p hp) e.symm
  have hAB : Srt AcctD.se ltI (A ++ B) := by
    rcases h with ⟨_, _, _, e⟩ | ⟨_, _, e⟩
    · rw [e] at hs; exact srt_out hs
    · rw [e] at hs; exact hs
  have inAB : ∀ p, p ∈ A ++ B ↔ (p ∈ q ∧ p.se ≠ x.se) := fun p => by
    constructor
    · intro hp
      refine ⟨?_, ?_⟩
      · rcases h with ⟨_, _, _, e⟩ | ⟨_, _, e⟩ <;> rw [e] <;> simp at hp ⊢
        · rcases hp with hp | hp
          · exact .inl hp
          · exact .inr (.inr hp)
        · exact hp
      · rcases List.mem_append.1 hp with hp | hp
        · exact nA p hp
        · exact nB p hp
    · rintro ⟨hp, hk⟩
      rcases h with ⟨_, e1, _, e⟩ | ⟨_, _, e⟩ <;> rw [e] at hp <;> simp at hp ⊢
      · rcases hp with hp | hp | hp
        · exact .inl hp
        · exfalso; apply hk; rw [hp]; exact e1
        · exact .inr hp
      · exact hp
  have hz : Srt AcctD.se ltI (A ++ (⟨x.se, x.sq⟩ : AcctD) :: B) := srt_mid (f := AcctD.se) (lt := ltI) (key := x.se) ltI_trans hA hB rfl hAB
  have inZ : ∀ p, p ∈ A ++ (⟨x.se, x.sq⟩ : AcctD) :: B ↔ (p ∈ q ∧ p.se ≠ x.se) ∨ p = ⟨x.se, x.sq⟩ := fun p => by
    rw [← inAB p]
    simp only [List.mem_append, List.mem_cons]
    constructor
    · rintro (h | h | h)
      · exact .inl (.inl h)
      · exact .inr h
      · exact .inl (.inr h)
    · rintro ((h | h) | h)
      · exact .inl h
      · exact .inr (.inr h)
      · exact .inr (.inl h)
  rcases h with ⟨hh, e1, eB, e⟩ | ⟨hh, eB, e⟩
  · have es : setA q x = A ++ (⟨x.se, x.sq⟩ : AcctD) :: B := by
      unfold setA
      rw [if_pos hh]
      conv => lhs; arg 1; rw [e]
      exact set_app _ _ _ _ _ lA
    rw [es]
    refine ⟨hz, inZ, ?_⟩
    have := congrArg List.length e
    simp at this ⊢; omega
  · have es : setA q x = A ++ (⟨x.se, x.sq⟩ : AcctD) :: B := by
      unfold setA
      rw [if_neg (by rw [hh]; simp), ← eA, ← eB]
      simp
    rw [es]
    refine ⟨hz, inZ, ?_⟩
    have := congrArg List.length e
    simp [hh] at this ⊢; omega
/-- What may be is, behind a transaction, what may be. -/
theorem MayT.set {l : List PairD} {q : List AcctD} {x : TxD} (hM : MayT l q) (hO : OkT l q x) : MayT (setP l x) (setA q x) := by
  obtain ⟨h1, h2, h3⟩ := MayP.iff.1 hM.1
  obtain ⟨g1, g2, g3⟩ := MayA.iff.1 hM.2
  obtain ⟨a1, a2, a3⟩ := setP_say h3 x
  obtain ⟨b1, b2, b3⟩ := setA_say g3 x
  obtain ⟨o1, o2, o3, o4⟩ := hO
  have ht := txS_iff.1 o1
  refine ⟨MayP.iff.2 ⟨?_, fun p hp => ?_, a1⟩, MayA.iff.2 ⟨?_, fun p hp => ?_, b1⟩⟩
  · refine Nat.le_trans a3 ?_
    split
    · next h => have : ¬ 4096 ≤ l.length := fun hq => o4 ⟨h.1, h.2, hq⟩
                omega
    · omega
  · rcases (a2 p).1 hp with h | ⟨h, rfl⟩
    · exact h2 p h.1
    · rw [pairS_iff]; dsimp only; omega
  · refine Nat.le_trans b3 ?_
    split
    · next h => have : ¬ 4096 ≤ q.length := fun hq => o3 ⟨h, hq⟩
                omega
    · omega
  · rcases (b2 p).1 hp with h | rfl
    · exact g2 p h.1
    · unfold acctS
      rw [Bool.and_eq_true, idS_iff, idS_iff]
      dsimp only
      omega
theorem MayT.do_ {l : List PairD} {q : List AcctD} {x : TxD} (hM : MayT l q) : MayT (doP l q x) (doA l q x) := by
  unfold doP doA
  by_cases h : OkT l q x
  · have e : okT l q x = true := (dec_true h).symm
    rw [if_pos e, if_pos e]; exact hM.set h
  · have e : okT l q x = false := (dec_false h).symm
    rw [if_neg (by rw [e]; simp), if_neg (by rw [e]; simp)]; exact hM
theorem MayT.nil : MayT [] [] := ⟨⟨by simp, fun j hj => absurd hj (by simp)⟩, ⟨by simp, fun j hj => absurd hj (by simp)⟩⟩
/-- A key is there just if a pair says so. -/
theorem khasP_mem {l : List PairD} (hs : Srt PairD.k ltK l) (key : ByteArray) : (khasP l key = true ↔ ∃ p ∈ l, p.k = key) ∧ ∀ p ∈ l, p.k = key → getB l key = p.v := by
  obtain ⟨A, B, hA, hB, eA, lA, h⟩ := splitP hs key
  have nA : ∀ p ∈ A, p.k ≠ key := fun p hp => ne_of_lt (hA p hp)
  have nB : ∀ p ∈ B, p.k ≠ key := fun p hp e => ne_of_lt (hB p hp) e.symm
  rcases h with ⟨hh, e1, eB, e⟩ | ⟨hh, eB, e⟩
  · have hx : ∀ p ∈ l, p.k = key → p = pth l (kposP l key) := fun p hp hk => by
      rw [e] at hp
      rcases List.mem_append.1 hp with hp | hp
      · exact absurd hk (nA p hp)
      · rcases List.mem_cons.1 hp with hp | hp
        · exact hp
        · exact absurd hk (nB p hp)
    refine ⟨⟨fun _ => ⟨pth l (kposP l key), ?_, e1⟩, fun _ => hh⟩, fun p hp hk => ?_⟩
    · have : pth l (kposP l key) ∈ A ++ (pth l (kposP l key) :: B) := by simp
      rw [← e] at this; exact this
    · unfold getB; rw [if_pos hh, hx p hp hk]
  · have hno : ∀ p ∈ l, p.k ≠ key := fun p hp => by
      rw [e] at hp
      rcases List.mem_append.1 hp with hp | hp
      · exact nA p hp
      · exact nB p hp
    exact ⟨⟨fun h => absurd (hh.symm.trans h) (by decide), fun ⟨p, hp, hk⟩ => absurd hk (hno p hp)⟩, fun p hp hk => absurd hk (hno p hp)⟩
theorem lastA_mem {q : List AcctD} (hs : Srt AcctD.se ltI q) (s : Int) : (khasA q s = true ↔ ∃ a ∈ q, a.se = s) ∧ ∀ a ∈ q, a.se = s → lastA q s = a.sq := by
  obtain ⟨A, B, hA, hB, eA, lA, h⟩ := splitA hs s
  have nA : ∀ p ∈ A, p.se ≠ s := fun p hp => neI_of_lt (hA p hp)
  have nB : ∀ p ∈ B, p.se ≠ s := fun p hp e => neI_of_lt (hB p hp) e.symm
  rcases h with ⟨hh, e1, eB, e⟩ | ⟨hh, eB, e⟩
  · have hx : ∀ p ∈ q, p.se = s → p = ath q (kposA q s) := fun p hp hk => by
      rw [e] at hp
      rcases List.mem_append.1 hp with hp | hp
      · exact absurd hk (nA p hp)
      · rcases List.mem_cons.1 hp with hp | hp
        · exact hp
        · exact absurd hk (nB p hp)
    refine ⟨⟨fun _ => ⟨ath q (kposA q s), ?_, e1⟩, fun _ => hh⟩, fun p hp hk => ?_⟩
    · have : ath q (kposA q s) ∈ A ++ (ath q (kposA q s) :: B) := by simp
      rw [← e] at this; exact this
    · unfold lastA; rw [if_pos hh, hx p hp hk]
  · have hno : ∀ p ∈ q, p.se ≠ s := fun p hp => by
      rw [e] at hp
      rcases List.mem_append.1 hp with hp | hp
      · exact nA p hp
      · exact nB p hp
    exact ⟨⟨fun h => absurd (hh.symm.trans h) (by decide), fun ⟨p, hp, hk⟩ => absurd hk (hno p hp)⟩, fun p hp hk => absurd hk (hno p hp)⟩
end
/-! part Nm -/
section
open Go.RowKit
theorem take_pth (l : List PairD) (k : Nat) (h : k < l.length) : l.take (k + 1) = l.take k ++ [pth l k] := by
  rw [List.take_succ_eq_append_getElem h]; simp [pth, h]
theorem box_P {w : World} {g : Nat} {p : PairD} (h : BoxR w g (encP p)) : ∀ j u, (flat encP [p])[j]? = some u → w.cell? ⟨g, 0 + j, none⟩ = some u := fun j u hj => by
  rw [Nat.zero_add]
  exact h.2 j u (by simpa [flat] using hj)
theorem drop_P {w : World} {b off n : Nat} {l : List PairD} {i : Nat} (h : PairsR w (some ⟨b, off, none⟩) n l) (hi : i < n) : ∀ j u, (flat encP (l.drop i))[j]? = some u → w.cell? ⟨b, off + i * 2 + j, none⟩ = some u := fun j u hj => by
  obtain ⟨b', off', e, hb, hc⟩ := h.2.2.2 (by omega)
  injection e with e; injection e with e1 e2 e3
  subst e1; subst e2
  rw [flat_drop encP_len, List.getElem?_drop] at hj
  rw [Nat.add_assoc]
  exact hc _ u hj
theorem PairsR.take {w : World} {A : Option Addr} {n i : Nat} {l : List PairD} (h : PairsR w A n l) (hi : i ≤ n) : PairsR w A i (l.take i) := by
  refine ⟨by rw [List.length_take, h.1]; omega, by rw [flat_len encP_len, List.length_take, h.1]; rw [Nat.min_eq_left hi], by have := h.2.2.1; omega, fun h0 => ?_⟩
  obtain ⟨b, off, e, hb, hc⟩ := h.2.2.2 (by omega)
  refine ⟨b, off, e, hb, fun j u hj => hc j u ?_⟩
  rw [flat_take encP_len, List.getElem?_take] at hj
  split at hj
  · exact hj
  · cases hj
theorem take_ath (l : List AcctD) (k : Nat) (h : k < l.length) : l.take (k + 1) = l.take k ++ [ath l k] := by
  rw [List.take_succ_eq_append_getElem h]; simp [ath, h]
theorem box_A {w : World} {g : Nat} {p : AcctD} (h : BoxR w g (encA p)) : ∀ j u, (flat encA [p])[j]? = some u → w.cell? ⟨g, 0 + j, none⟩ = some u := fun j u hj => by
  rw [Nat.zero_add]
  exact h.2 j u (by simpa [flat] using hj)
theorem drop_A {w : World} {b off n : Nat} {l : List AcctD} {i : Nat} (h : AcctsR w (some ⟨b, off, none⟩) n l) (hi : i < n) : ∀ j u, (flat encA (l.drop i))[j]? = some u → w.cell? ⟨b, off + i * 2 + j, none⟩ = some u := fun j u hj => by
  obtain ⟨b', off', e, hb, hc⟩ := h.2.2.2 (by omega)
  injection e with e; injection e with e1 e2 e3
  subst e1; subst e2
  rw [flat_drop encA_len, List.getElem?_drop] at hj
  rw [Nat.add_assoc]
  exact hc _ u hj
theorem AcctsR.take {w : World} {A : Option Addr} {n i : Nat} {l : List AcctD} (h : AcctsR w A n l) (hi : i ≤ n) : AcctsR w A i (l.take i) := by
  refine ⟨by rw [List.length_take, h.1]; omega, by rw [flat_len encA_len, List.length_take, h.1]; rw [Nat.min_eq_left hi], by have := h.2.2.1; omega, fun h0 => ?_⟩
  obtain ⟨b, off, e, hb, hc⟩ := h.2.2.2 (by omega)
  refine ⟨b, off, e, hb, fun j u hj => hc j u ?_⟩
  rw [flat_take encA_len, List.getElem?_take] at hj
  split at hj
  · exact hj
  · cases hj
instance : Inhabited TxD := ⟨⟨0, 0, ⟨#[]⟩, ⟨#[]⟩⟩⟩
def encX (x : TxD) : List Value := [.int .i64 x.se, .int .i64 x.sq, .string x.k, .string x.v]
theorem encX_len (x : TxD) : (encX x).length = 4 := rfl
theorem encX_one (x : TxD) : ∀ u ∈ encX x, u.oneCell' = true := by
  intro u hu
  simp only [encX, List.mem_cons, List.not_mem_nil, or_false] at hu
  rcases hu with rfl | rfl | rfl | rfl <;> rfl
def xth (l : List TxD) (i : Nat) : TxD := l.getD i default
def TxsR (w : World) (A : Option Addr) (n : Nat) (l : List TxD) : Prop := l.length = n ∧ RowV w A n 4 (flat encX l)
theorem TxsR.up {w w' : World} {A n l} (h : TxsR w A n l) (hb : Below w.heap.size w w') : TxsR w' A n l := ⟨h.1, h.2.up hb⟩
theorem TxsR.at {w : World} {A n l} (h : TxsR w A n l) (hn : 0 < n) : ∃ b off, A = some ⟨b, off, none⟩ ∧ b < w.heap.size ∧ ∀ j, j < n → w.cell? ⟨b, off + j * 4, none⟩ = some (.int .i64 (xth l j).se) ∧ w.cell? ⟨b, off + j * 4 + 1, none⟩ = some (.int .i64 (xth l j).sq) ∧ w.cell? ⟨b, off + j * 4 + 2, none⟩ = some (.string (xth l j).k) ∧ w.cell? ⟨b, off + j * 4 + 3, none⟩ = some (.string (xth l j).v) := by
  obtain ⟨b, off, e, hb, hc⟩ := h.2.2.2 hn
  refine ⟨b, off, e, hb, fun j hj => ?_⟩
  have hat : ∀ r u, r < 4 → (encX (xth l j))[r]? = some u → w.cell? ⟨b, off + j * 4 + r, none⟩ = some u := fun r u hr hu => by
    rw [Nat.add_assoc]
    exact hc _ u (by rw [flat_at encX_len l j r (by rw [h.1]; exact hj) hr]; exact hu)
  exact ⟨hat 0 _ (by omega) rfl, hat 1 _ (by omega) rfl, hat 2 _ (by omega) rfl, hat 3 _ (by omega) rfl⟩
/-! ### texts -/
def encS (s : ByteArray) : List Value := [.string s]
theorem encS_len (s : ByteArray) : (encS s).length = 1 := rfl
instance : Inhabited ByteArray := ⟨⟨#[]⟩⟩
def sth (l : List ByteArray) (i : Nat) : ByteArray := l.getD i default
def StrsR (w : World) (A : Option Addr) (n : Nat) (l : List ByteArray) : Prop := l.length = n ∧ RowV w A n 1 (flat encS l)
theorem StrsR.up {w w' : World} {A n l} (h : StrsR w A n l) (hb : Below w.heap.size w w') : StrsR w' A n l := ⟨h.1, h.2.up hb⟩
theorem StrsR.at {w : World} {A n l} (h : StrsR w A n l) (hn : 0 < n) : ∃ b off, A = some ⟨b, off, none⟩ ∧ b < w.heap.size ∧ ∀ j, j < n → w.cell? ⟨b, off + j, none⟩ = some (.string (sth l j)) := by
  obtain ⟨b, off, e, hb, hc⟩ := h.2.2.2 hn
  refine ⟨b, off, e, hb, fun j hj => ?_⟩
  refine hc _ _ ?_
  have := flat_at encS_len l j 0 (by rw [h.1]; exact hj) (by omega)
  simp only [Nat.mul_one, Nat.add_zero] at this
  rw [this]; rfl
/-! ### batches -/
structure BatchD where
  au : Int
  n : Int
  tx : List TxD
instance : Inhabited BatchD := ⟨⟨0, 0, []⟩⟩
def bth (l : List BatchD) (i : Nat) : BatchD := l.getD i default
def BatchesR (w : World) (A : Option Addr) (n : Nat) (l : List BatchD) : Prop :=
  l.length = n ∧ n ≤ 9223372036854775807 ∧ (0 < n → ∃ b off, A = some ⟨b, off, none⟩ ∧ b < w.heap.size ∧ ∀ j, j < n → ∃ (B : Option Addr) (m d : Nat), w.cell? ⟨b, off + j * 3, none⟩ = some (.int .i64 (bth l j).au) ∧ w.cell? ⟨b, off + j * 3 + 1, none⟩ = some (.int .i64 (bth l j).n) ∧ w.cell? ⟨b, off + j * 3 + 2, none⟩ = some (.slice B m d) ∧ TxsR w B m (bth l j).tx)
theorem BatchesR.up {w w' : World} {A n l} (h : BatchesR w A n l) (hb : Below w.heap.size w w') : BatchesR w' A n l := by
  obtain ⟨h1, h2, h3⟩ := h
  refine ⟨h1, h2, fun hn => ?_⟩
  obtain ⟨b, off, e, hlt, hc⟩ := h3 hn
  refine ⟨b, off, e, Nat.lt_of_lt_of_le hlt hb.size, fun j hj => ?_⟩
  obtain ⟨B, m, d, g0, g1, g2, g3⟩ := hc j hj
  have g := (bcell hb).1
  exact ⟨B, m, d, (g _ _ hlt).trans g0, (g _ _ hlt).trans g1, (g _ _ hlt).trans g2, g3.up hb⟩
/-! ### what fits into memory -/
def SmP (p : PairD) : Prop := p.k.size ≤ 140737488355328 ∧ p.v.size ≤ 140737488355328
def SmX (x : TxD) : Prop := x.k.size ≤ 140737488355328 ∧ x.v.size ≤ 140737488355328
def SmB (b : BatchD) : Prop := b.tx.length ≤ 17592186044416 ∧ ∀ x ∈ b.tx, SmX x
/-! ### an asking -/
structure AskP where
  p : SlP
  q : SlP
  x : SlP
  b : SlP
  k : SlP
structure AskD where
  p : List PairD
  q : List AcctD
  x : List TxD
  b : List BatchD
  k : List ByteArray
def AskP.val (P : AskP) : Value := .agg #[.slice P.p.A P.p.n P.p.c, .slice P.q.A P.q.n P.q.c, .slice P.x.A P.x.n P.x.c, .slice P.b.A P.b.n P.b.c, .slice P.k.A P.k.n P.k.c]
structure AskR (w : World) (P : AskP) (D : AskD) : Prop where
  p : PairsR w P.p.A P.p.n D.p
  q : AcctsR w P.q.A P.q.n D.q
  x : TxsR w P.x.A P.x.n D.x
  b : BatchesR w P.b.A P.b.n D.b
  k : StrsR w P.k.A P.k.n D.k
  sp : P.p.n ≤ 17592186044416
  sq : P.q.n ≤ 17592186044416
  sx : P.x.n ≤ 17592186044416
  sb : P.b.n ≤ 17592186044416
  sk : P.k.n ≤ 17592186044416
  gp : ∀ v ∈ D.p, SmP v
  gx : ∀ v ∈ D.x, SmX v
  gb : ∀ v ∈ D.b, SmB v
  gk : ∀ v ∈ D.k, v.size ≤ 140737488355328
theorem AskR.up {w w' : World} {P : AskP} {D : AskD} (h : AskR w P D) (hb : Below w.heap.size w w') : AskR w' P D :=
  { h with p := h.p.up hb, q := h.q.up hb, x := h.x.up hb, b := h.b.up hb, k := h.k.up hb }
end
/-! part No -/
section
open Go.RowKit Go.ChangeShapes Go.WideShapes Go.ChangeAt
section
variable {H : Type} {enc : TypeId × Value → H} {w : World} {base : Nat} {spare : Nat → Bool} {held : Bool}
def Wok (t : TypeId) (d : DataW H) : Prop := ∀ b ∈ d.weights Tryz.prog t, b ≤ reachBytes
theorem Wok.field {t : TypeId} {fs : Array Field} {parts : List (DataW H)} (ht : Tryz.prog.underlying t = some (.struct fs)) (h : Wok t (.agg parts)) {i : Nat} {f : TypeId} {d : DataW H} (hf : (fs.toList.map (·.type))[i]? = some f) (hd : parts[i]? = some d) : Wok f d :=
  fun b hb => h b (by simp only [DataW.weights, ht]; exact DataW.weights_mem_each hf hd b hb)
theorem weightsAll_mem {e : TypeId} {d : DataW H} {b : Nat} (hb : b ∈ d.weights Tryz.prog e) : ∀ {l : List (DataW H)}, d ∈ l → b ∈ DataW.weightsAll Tryz.prog e l
  | [], h => by cases h
  | x :: l, h => by
    rw [DataW.weightsAll, List.mem_append]
    rcases List.mem_cons.1 h with rfl | h
    · exact .inl hb
    · exact .inr (weightsAll_mem hb h)
theorem Wok.elem {t e : TypeId} {elems sp : List (DataW H)} (ht : Tryz.prog.underlying t = some (.slice e)) (h : Wok t (.slice elems sp)) {d : DataW H} (hd : d ∈ elems) : Wok e d :=
  fun b hb => h b (by simp only [DataW.weights, ht]; exact List.mem_cons_of_mem _ (List.mem_append_left _ (weightsAll_mem hb hd)))
theorem Wok.len {t e : TypeId} {elems sp : List (DataW H)} (ht : Tryz.prog.underlying t = some (.slice e)) (h : Wok t (.slice elems sp)) : (elems.length + sp.length) * Tryz.prog.bytesOf e ≤ reachBytes :=
  h _ (by simp only [DataW.weights, ht]; exact List.mem_cons_self)
theorem Wok.str {t : TypeId} {l : List UInt8} (h : Wok (H := H) t (.lit (.string l))) : l.length ≤ reachBytes := h _ (by simp [DataW.weights])
/-- A string, opened: how long it may be. -/
theorem open_StrS {t : TypeId} (ht : Tryz.prog.underlying t = some .string) {fuel : Nat} {cs : List Value} {x : DataW H × List MemPlace} (h : DataW.trod enc Tryz.prog w base spare held fuel t cs = some x) (hw : Wok t x.1) : ∃ s : ByteArray, cs = [.string s] ∧ s.size ≤ 140737488355328 := by
  obtain ⟨s, e, ex, _⟩ := DataW.trod_string ht h
  refine ⟨s, e, ?_⟩
  rw [ex] at hw
  have := hw.str
  simp [reachBytes] at this
  have e2 : s.size = s.data.size := rfl
  rw [e2]; omega
set_option maxRecDepth 20000 in
/-- A slice of flat elements, opened: how long it may be. -/
theorem open_flatS {α : Type} [Inhabited α] {e : α → List Value} {k kb : Nat} {G : α → Prop} {t te : TypeId} (hk : ∀ x, (e x).length = k) (hk0 : 0 < k) (ht : Tryz.prog.underlying t = some (.slice te)) (hc : Tryz.prog.cellsOf te = k) (hb0 : Tryz.prog.bytesOf te = kb)
    (hopen : ∀ (fuel : Nat) (cs : List Value) (x : DataW H × List MemPlace), DataW.trod enc Tryz.prog w base spare held fuel te cs = some x → Wok te x.1 → ∃ v, cs = e v ∧ G v)
    {fuel : Nat} {cs : List Value} {x : DataW H × List MemPlace} (h : DataW.trod enc Tryz.prog w base spare held fuel t cs = some x) (hw : Wok t x.1) : ∃ A n c l, cs = [.slice A n c] ∧ l.length = n ∧ RowV w A n k (flat e l) ∧ n ≤ c ∧ c ≤ 9223372036854775807 ∧ n * kb ≤ 140737488355328 ∧ ∀ v ∈ l, G v := by
  rcases Deep.open_slice ht h with ⟨hcs, _⟩ | ⟨a, len, cap, m, n, D, Pl, hcs, _, hl, hm, hmm, hxx, hx⟩
  · exact ⟨none, 0, 0, [], hcs, rfl, ⟨by simp [flat], by omega, fun h => absurd h (by omega)⟩, by omega, by omega, by omega, fun v hv => by cases hv⟩
  · have hlen : len ≤ m := by rw [hmm]; split <;> omega
    rw [hxx] at hw
    have hq : len * kb ≤ 140737488355328 := by
      have := hw.len ht
      rw [hb0] at this
      simp only [List.length_map, List.length_range, reachBytes] at this
      have h2 : len * kb ≤ (len + (m - len)) * kb := Nat.mul_le_mul_right _ (by omega)
      omega
    have hcell : ∀ i, i < len → ∃ v : α, G v ∧ ∀ j u, (e v)[j]? = some u → w.cell? (a.add (i * k + j)) = some u := by
      intro i hi
      obtain ⟨cs', h1, h2⟩ := hx i (by omega)
      rw [hc] at h1
      obtain ⟨v, rfl, hg⟩ := hopen _ _ _ h2 (hw.elem ht (List.mem_map.2 ⟨i, List.mem_range.2 hi, rfl⟩))
      refine ⟨v, hg, fun j u hj => ?_⟩
      obtain ⟨_, _, hat⟩ := World.cells?_some h1
      have hjk : j < k := by
        have := (List.getElem?_eq_some_iff.1 hj).1
        rw [hk] at this; exact this
      have := hat j hjk
      rw [Deep.add_add] at this
      rw [this]; exact hj
    obtain ⟨f, hf⟩ := Deep.choose_lt (α := α) hcell
    have hg : ∀ i, i < len → ((List.range len).map f).getD i default = f i := fun i hi => by simp [hi]
    refine ⟨some a, len, cap, (List.range len).map f, hcs, by simp, ⟨by rw [flat_len hk]; simp, by have : cap ≤ 9223372036854775807 := hm; omega, fun hn => ?_⟩, hl, hm, hq, fun v hv => ?_⟩
    · obtain ⟨b, off, spot⟩ := a
      have h0 := (hf 0 hn).2
      obtain ⟨u0, hu0⟩ : ∃ u, (e (f 0))[0]? = some u := by
        have : 0 < (e (f 0)).length := by rw [hk]; exact hk0
        exact ⟨_, List.getElem?_eq_getElem this⟩
      have hc0 := h0 0 u0 hu0
      have hspot : spot = none := by simpa [Addr.add] using World.cell?_spot hc0
      subst hspot
      refine ⟨b, off, rfl, by simpa [Addr.add] using World.block_lt_of_cell? w _ hc0, fun j u hj => ?_⟩
      have hjl : j < len * k := by
        have := (List.getElem?_eq_some_iff.1 hj).1
        rw [flat_len hk] at this; simpa using this
      have hq : j / k < len := by rw [Nat.div_lt_iff_lt_mul hk0]; exact hjl
      have hr : j % k < k := Nat.mod_lt _ hk0
      have hjj : j = j / k * k + j % k := by rw [Nat.mul_comm]; exact (Nat.div_add_mod j k).symm
      have h1 := flat_at hk ((List.range len).map f) (j / k) (j % k) (by simpa using hq) hr
      rw [← hjj, hg _ hq, hj] at h1
      have h2 := (hf (j / k) hq).2 (j % k) u h1.symm
      rw [← hjj] at h2
      rw [← h2]
      congr 1
      by_cases hz : j = 0
      · subst hz; rfl
      · simp [Addr.add, hz]
    · rw [List.mem_map] at hv
      obtain ⟨i, hi, rfl⟩ := hv
      exact (hf i (List.mem_range.1 hi)).1
theorem cells_str : Tryz.prog.cellsOf 9 = 1 := by kernel_rfl
theorem cells_tx : Tryz.prog.cellsOf 41 = 4 := by kernel_rfl
theorem cells_txs : Tryz.prog.cellsOf 22 = 1 := by kernel_rfl
theorem cells_batch : Tryz.prog.cellsOf 43 = 3 := by kernel_rfl
theorem bytes_str : Tryz.prog.bytesOf 9 = 16 := by kernel_rfl
theorem bytes_tx : Tryz.prog.bytesOf 41 = 48 := by kernel_rfl
theorem bytes_batch : Tryz.prog.bytesOf 43 = 40 := by kernel_rfl
set_option maxRecDepth 20000 in
theorem open_TxS {fuel : Nat} {cs : List Value} {x : DataW H × List MemPlace} (h : DataW.trod enc Tryz.prog w base spare held fuel 41 cs = some x) (hw : Wok 41 x.1) : ∃ v, cs = encX v ∧ SmX v := by
  obtain ⟨xs, n, _, hx, hl, hlen, hf⟩ := DataW.trod_struct Tryz.underlying41 h
  rw [hx] at hw
  rw [cells_tx] at hl
  obtain ⟨v0, v1, v2, v3, rfl⟩ := list4 hl
  obtain ⟨y0, y1, y2, y3, rfl⟩ := list4 hlen
  have f0 : DataW.trod enc Tryz.prog w base spare held n 3 [v0] = some y0 := by simpa [cells_int] using hf 0 _ rfl
  have f1 : DataW.trod enc Tryz.prog w base spare held n 3 [v1] = some y1 := by simpa [cells_int] using hf 1 _ rfl
  have f2 : DataW.trod enc Tryz.prog w base spare held n 9 [v2] = some y2 := by simpa [cells_str] using hf 2 _ rfl
  have f3 : DataW.trod enc Tryz.prog w base spare held n 9 [v3] = some y3 := by simpa [cells_str] using hf 3 _ rfl
  obtain ⟨z0, e0⟩ := open_Int f0
  obtain ⟨z1, e1⟩ := open_Int f1
  obtain ⟨z2, e2, s2⟩ := open_StrS Tryz.underlying9 f2 (hw.field Tryz.underlying41 (i := 2) rfl rfl)
  obtain ⟨z3, e3, s3⟩ := open_StrS Tryz.underlying9 f3 (hw.field Tryz.underlying41 (i := 3) rfl rfl)
  injection e0 with e0; injection e1 with e1; injection e2 with e2; injection e3 with e3
  subst e0; subst e1; subst e2; subst e3
  exact ⟨⟨z0, z1, z2, z3⟩, rfl, s2, s3⟩
theorem open_StringS {fuel : Nat} {cs : List Value} {x : DataW H × List MemPlace} (h : DataW.trod enc Tryz.prog w base spare held fuel 9 cs = some x) (hw : Wok 9 x.1) : ∃ v, cs = encS v ∧ v.size ≤ 140737488355328 := by
  obtain ⟨s, e, h2⟩ := open_StrS Tryz.underlying9 h hw
  exact ⟨s, e, h2⟩
set_option maxRecDepth 20000 in
theorem open_BatchS {fuel : Nat} {cs : List Value} {x : DataW H × List MemPlace} (h : DataW.trod enc Tryz.prog w base spare held fuel 43 cs = some x) (hw : Wok 43 x.1) : ∃ (b : BatchD) (A : Option Addr) (n c : Nat), cs = [.int .i64 b.au, .int .i64 b.n, .slice A n c] ∧ TxsR w A n b.tx ∧ SmB b := by
  obtain ⟨xs, n, _, hx, hl, hlen, hf⟩ := DataW.trod_struct Tryz.underlying43 h
  rw [hx] at hw
  rw [cells_batch] at hl
  obtain ⟨v0, v1, v2, rfl⟩ := list3 hl
  obtain ⟨y0, y1, y2, rfl⟩ := list3 hlen
  have f0 : DataW.trod enc Tryz.prog w base spare held n 3 [v0] = some y0 := by simpa [cells_int] using hf 0 _ rfl
  have f1 : DataW.trod enc Tryz.prog w base spare held n 3 [v1] = some y1 := by simpa [cells_int] using hf 1 _ rfl
  have f2 : DataW.trod enc Tryz.prog w base spare held n 22 [v2] = some y2 := by simpa [cells_txs] using hf 2 _ rfl
  obtain ⟨z0, e0⟩ := open_Int f0
  obtain ⟨z1, e1⟩ := open_Int f1
  obtain ⟨A, m, c, l, e2, h1, h2, h3, h4, h5, h6⟩ := open_flatS (e := encX) (G := SmX) encX_len (by omega) Tryz.underlying22 cells_tx bytes_tx (fun _ _ _ h hw => open_TxS h hw) f2 (hw.field Tryz.underlying43 (i := 2) rfl rfl)
  injection e0 with e0; injection e1 with e1; injection e2 with e2
  subst e0; subst e1; subst e2
  exact ⟨⟨z0, z1, l⟩, A, m, c, rfl, ⟨h1, h2⟩, by rw [h1]; omega, h6⟩
end
end
/-! part Np -/
section
open Go.RowKit
theorem bel_set3 {w x : World} (h : Below w.heap.size w x) {b o : Nat} {v : Value} (hp : w.heap.size ≤ b) : Below w.heap.size w (x.setCell ⟨b, o, none⟩ v) := h.setCell hp v
theorem own_set3 {w : World} {B k n : Nat} {t : TypeId} {v : Value} {xs : List Value} (h : w.ownsRow B t k v n xs) {b o : Nat} (hp : b < B) (u : Value) : (w.setCell ⟨b, o, none⟩ u).ownsRow B t k v n xs := own_set h (p := ⟨b, o, none⟩) hp u
end
/-! part Nr -/
section
open Go.RowKit
/-- A weight, up to more than is played. -/
def wgo {α : Type} (f : α → Int) : List α → Int → Int
  | [], v => v
  | x :: l, v => if v < 1048576 then wgo f l (v + f x) else v
theorem wgo_le {α : Type} {f : α → Int} (hf : ∀ x, 0 ≤ f x) : ∀ (l : List α) (v : Int), v ≤ wgo f l v
  | [], v => Int.le_refl _
  | x :: l, v => by
    unfold wgo
    split
    · have := wgo_le hf l (v + f x); have := hf x; omega
    · exact Int.le_refl _
theorem wgo_bound {α : Type} {f : α → Int} : ∀ (l : List α) (v : Int), (∀ x ∈ l, f x ≤ 281474976710656) → v ≤ 562949953421312 → wgo f l v ≤ 562949953421312
  | [], v, _, h => h
  | x :: l, v, hf, h => by
    unfold wgo
    split
    · have := hf x (by simp)
      exact wgo_bound l _ (fun y hy => hf y (by simp [hy])) (by omega)
    · exact h
theorem wgo_stop {α : Type} {f : α → Int} (l : List α) {v : Int} (h : ¬ v < 1048576) : wgo f l v = v := by
  cases l with
  | nil => rfl
  | cons x l => unfold wgo; rw [if_neg h]
theorem wgo_step {α : Type} [Inhabited α] {f : α → Int} (l : List α) {v : Int} {k : Nat} (hk : k < l.length) (h : v < 1048576) : wgo f (l.drop k) v = wgo f (l.drop (k + 1)) (v + f (l.getD k default)) := by
  rw [drop_getD l k hk]
  conv => lhs; unfold wgo
  rw [if_pos h]
def szP (p : PairD) : Int := (p.k.size : Int) + (p.v.size : Int)
def szX (x : TxD) : Int := (x.k.size : Int) + (x.v.size : Int)
def szS (s : ByteArray) : Int := (s.size : Int)
def twS (l : List PairD) (q : List AcctD) : Int := wgo szP l ((q.length : Int) + (l.length : Int))
def xwS (l : List TxD) : Int := wgo szX l (l.length : Int)
def kwS (l : List ByteArray) : Int := wgo szS l (l.length : Int)
theorem szP_ge (p : PairD) : 0 ≤ szP p := by unfold szP; omega
theorem szX_ge (p : TxD) : 0 ≤ szX p := by unfold szX; omega
theorem szS_ge (p : ByteArray) : 0 ≤ szS p := by unfold szS; omega
theorem szX_le {x : TxD} (h : SmX x) : szX x ≤ 281474976710656 := by have := h.1; have := h.2; unfold szX; omega
theorem szP_le {x : PairD} (h : SmP x) : szP x ≤ 281474976710656 := by have := h.1; have := h.2; unfold szP; omega
theorem sm_at {α : Type} [Inhabited α] {G : α → Prop} {l : List α} (h : ∀ v ∈ l, G v) {k : Nat} (hk : k < l.length) : G (l.getD k default) := (mem_getD (P := G)).2 h k hk
set_option maxRecDepth 100000 in
set_option maxHeartbeats 2000000 in
theorem law0_TxWeight (A : Option Addr) (n c : Nat) (l : List TxD) (y : Int) (w : World) (hl : TxsR w A n l) (hs : ∀ x ∈ l, SmX x) (hn : n ≤ 17592186044416) (hy : xwS l = y) :
    Calls Tryz.prog 23 #[.slice A n c] w fun e w' => e = .returned (.int .i64 y) ∧ Below w.heap.size w w' := by
  have HL := Lib.hid hl
  have HN := Lib.hid hl.1
  have HS := Lib.hid hs
  have HY := Lib.hid hy
  clear hl hs hy
  go_enter Tryz.func23, Tryz.ntmps23
  go_wp2_with fail
  go_loopw [3, 4] (fun sv si wr => ∃ (k : Nat) (v : Int), k ≤ n ∧ si = .int .i64 k ∧ sv = .int .i64 v ∧ 0 ≤ v ∧ v ≤ 562949953421312 ∧ Hid (wgo szX (l.drop k) v = y) ∧ Below w.heap.size w wr) (fun _ si _ => n - (intOf si).toNat)
  case atStart => exact ⟨0, n, Nat.zero_le _, rfl, rfl, by omega, by omega, Lib.hid (by have := HY.out; unfold xwS at this; rw [HN.out] at this; exact this), Below.refl _ _⟩
  case round =>
    obtain ⟨k, v, hk, rfl, rfl, hv0, hv1, HW, hbw⟩ := hrel
    (obtain ⟨wk, hwk⟩ : ∃ x, x = wr := ⟨_, rfl⟩); subst hwk
    by_cases hlt : k < n
    · by_cases hvl : v < 1048576
      · obtain ⟨b, off, rfl, hb, hc⟩ := (HL.out.up hbw).at (by omega)
        obtain ⟨c0, c1, c2, c3⟩ := hc k hlt
        have hsm := sm_at HS.out (k := k) (by rw [HN.out]; exact hlt)
        obtain ⟨hs1, hs2⟩ := hsm
        have hst := wgo_step (f := szX) l (v := v) (k := k) (by rw [HN.out]; exact hlt) hvl
        rw [HW.out] at hst
        obtain ⟨p, hp⟩ : ∃ p, p = xth l k := ⟨_, rfl⟩
        have hp2 : l.getD k default = p := hp.symm
        rw [hp2] at hst hs1 hs2
        rw [← hp] at c0 c1 c2 c3
        have HST := Lib.hid hst.symm
        clear hc hst hp hp2
        go_wp2_with fail
        refine wp_region_fam (by kernel_rfl) (by kernel_rfl) (fun ι F hne hF hcl => ?_)
        have hcF0 := fun n o => (bcell (hF n)).1 (b) o (by first | (simp; done) | (simp; omega) | omega)
        have HF := Lib.hid hF; clear hF
        have HC := Lib.hid hcl; clear hcl
        repeat (any_goals (first
         | go_big_quiet_step (first | (fail))
         | (refine wpQuiet_guard _ _ _ rfl rfl ?_; (fail_if_success (intro b' hb; have h2 := hb.symm; have : b' = true := h2.trans (by with_reducible rfl))); (fail_if_success (intro b' hb; have h2 := hb.symm; have : b' = false := h2.trans (by with_reducible rfl))); intro b' hb; simp only [hb]; cases b' <;> (try simp only [Bool.not_eq_true', Bool.not_eq_false', decide_eq_true_eq, decide_eq_false_iff_not, Int.not_lt, Int.not_le, Bool.and_eq_true, Bool.or_eq_true, Bool.or_eq_false_iff, beq_iff_eq, beq_eq_false_iff_ne, Int.natCast_pos] at hb))))
        all_goals (refine wpQuiet_nil ?_; intro nq)
        all_goals (try (exfalso; omega))
        have hFwf := HF.out nq
        clear HF HC hne
        generalize F nq = wf at *
        go_wp2_with fail
        (first | (go_round; (case rel => exact ⟨k + 1, v + szX p, by omega, by go_num, by (first | rfl | (unfold szX; rw [Int.add_assoc])), by (unfold szX; omega), by (unfold szX; omega), HST, bel_trans hbw hFwf⟩); (case measure => (simp [intOf] <;> omega))) | (go_roundw; (case rel => exact ⟨k + 1, v + szX p, by omega, by go_num, by (first | rfl | (unfold szX; rw [Int.add_assoc])), by (unfold szX; omega), by (unfold szX; omega), HST, bel_trans hbw hFwf⟩); (case measure => (simp [intOf] <;> omega))) | (refine ⟨?_, by simp [intOf] <;> omega⟩; (repeat apply Exists.intro); refine ⟨?rel, ?fr⟩; (case fr => ((repeat' apply And.intro) <;> rfl)); (case rel => exact ⟨k + 1, v + szX p, by omega, by go_num, by (first | rfl | (unfold szX; rw [Int.add_assoc])), by (unfold szX; omega), by (unfold szX; omega), HST, bel_trans hbw hFwf⟩)))
      · have hd : decide (v < 1048576) = false := by simpa using hvl
        have e := wgo_stop (f := szX) (l.drop k) hvl
        rw [HW.out] at e
        subst e
        clear hvl
        go_wp2_with fail
        go_ret
        exact ⟨rfl, hbw⟩
    · have e : y = v := by
        have := HW.out
        rw [List.drop_of_length_le (by rw [HN.out]; omega)] at this
        exact this.symm
      subst e
      go_wp2_with fail
      go_ret
      exact ⟨rfl, hbw⟩
end
/-! part Ns -/
section
open Go.RowKit
def hvB (v : Int) (n m : Nat) : Bool := decide (6000 < v ∨ 100 < n ∨ 100 < m)
theorem hvB_iff {v : Int} {n m : Nat} : hvB v n m = true ↔ (6000 < v ∨ 100 < n ∨ 100 < m) := by simp [hvB]
/-- An asking that is played. -/
structure Light (P : AskP) (D : AskD) : Prop where
  p : P.p.n ≤ 6000
  q : P.q.n ≤ 6000
  x : P.x.n ≤ 100
  b : P.b.n ≤ 6000
  k : P.k.n ≤ 100
  t : ∀ v ∈ D.b, v.tx.length ≤ 6000
def HeavyQ (P : AskP) (D : AskD) (w : World) (e : Ending) (w' : World) : Prop := ∃ x : Bool, e = .returned (.bool x) ∧ (x = false → Light P D) ∧ Below w.heap.size w w'
end
/-! part Nv -/
section
theorem bool_iff {a b : Bool} (h : a = true ↔ b = true) : a = b := Bool.eq_iff_iff.2 h
theorem getB_no {l : List PairD} {key : ByteArray} (h : khasP l key = false) : getB l key = ⟨#[]⟩ := by unfold getB; rw [if_neg (by rw [h]; simp)]
theorem lastA_no {q : List AcctD} {s : Int} (h : khasA q s = false) : lastA q s = 0 := by unfold lastA; rw [if_neg (by rw [h]; simp)]
theorem setP_other {l : List PairD} (hs : Srt PairD.k ltK l) (x : TxD) {key : ByteArray} (hk : key ≠ x.k) : khasP (setP l x) key = khasP l key ∧ getB (setP l x) key = getB l key := by
  obtain ⟨a1, a2, _⟩ := setP_say hs x
  obtain ⟨m1, m2⟩ := khasP_mem hs key
  obtain ⟨n1, n2⟩ := khasP_mem a1 key
  have e : khasP (setP l x) key = khasP l key := bool_iff (by
    rw [n1, m1]
    constructor
    · rintro ⟨p, hp, rfl⟩
      rcases (a2 p).1 hp with h | ⟨_, rfl⟩
      · exact ⟨p, h.1, rfl⟩
      · exact absurd rfl hk
    · rintro ⟨p, hp, rfl⟩
      exact ⟨p, (a2 p).2 (.inl ⟨hp, hk⟩), rfl⟩)
  refine ⟨e, ?_⟩
  cases h : khasP l key
  · rw [getB_no h, getB_no (by rw [e, h])]
  · obtain ⟨p, hp, hpk⟩ := m1.1 h
    rw [m2 p hp hpk, n2 p ((a2 p).2 (.inl ⟨hp, by rw [hpk]; exact hk⟩)) hpk]
theorem setP_gone {l : List PairD} (hs : Srt PairD.k ltK l) (x : TxD) (hv : x.v.size = 0) : khasP (setP l x) x.k = false := by
  obtain ⟨a1, a2, _⟩ := setP_say hs x
  obtain ⟨n1, n2⟩ := khasP_mem a1 x.k
  cases h : khasP (setP l x) x.k
  · rfl
  · obtain ⟨p, hp, hpk⟩ := n1.1 h
    rcases (a2 p).1 hp with h | h
    · exact absurd hpk h.2
    · exact absurd hv h.1
theorem setP_there {l : List PairD} (hs : Srt PairD.k ltK l) (x : TxD) (hv : x.v.size ≠ 0) : khasP (setP l x) x.k = true ∧ getB (setP l x) x.k = x.v := by
  obtain ⟨a1, a2, _⟩ := setP_say hs x
  obtain ⟨n1, n2⟩ := khasP_mem a1 x.k
  have hm : (⟨x.k, x.v⟩ : PairD) ∈ setP l x := (a2 _).2 (.inr ⟨hv, rfl⟩)
  exact ⟨n1.2 ⟨_, hm, rfl⟩, n2 _ hm rfl⟩
theorem setA_last {q : List AcctD} (hs : Srt AcctD.se ltI q) (x : TxD) (s : Int) : lastA (setA q x) s = (if s = x.se then x.sq else lastA q s) ∧ (khasA (setA q x) s = true ↔ (s = x.se ∨ khasA q s = true)) := by
  obtain ⟨a1, a2, _⟩ := setA_say hs x
  obtain ⟨m1, m2⟩ := lastA_mem hs s
  obtain ⟨n1, n2⟩ := lastA_mem a1 s
  have hm : (⟨x.se, x.sq⟩ : AcctD) ∈ setA q x := (a2 _).2 (.inr rfl)
  constructor
  · by_cases h : s = x.se
    · subst h
      rw [if_pos rfl, n2 _ hm rfl]
    · rw [if_neg h]
      cases hh : khasA q s
      · rw [lastA_no hh]
        refine lastA_no ?_
        cases h2 : khasA (setA q x) s
        · rfl
        · obtain ⟨p, hp, hpk⟩ := n1.1 h2
          rcases (a2 p).1 hp with h3 | rfl
          · rw [m1.2 ⟨p, h3.1, hpk⟩] at hh; cases hh
          · exact absurd hpk.symm h
      · obtain ⟨p, hp, hpk⟩ := m1.1 hh
        rw [m2 p hp hpk, n2 p ((a2 p).2 (.inl ⟨hp, by rw [hpk]; exact h⟩)) hpk]
  · rw [n1, m1]
    constructor
    · rintro ⟨p, hp, rfl⟩
      rcases (a2 p).1 hp with h | rfl
      · exact .inr ⟨p, h.1, rfl⟩
      · exact .inl rfl
    · rintro (rfl | ⟨p, hp, rfl⟩)
      · exact ⟨_, hm, rfl⟩
      · by_cases h : p.se = x.se
        · exact ⟨_, hm, h.symm⟩
        · exact ⟨p, (a2 p).2 (.inl ⟨hp, h⟩), rfl⟩
theorem doP_yes {l : List PairD} {q : List AcctD} {x : TxD} (h : okT l q x = true) : doP l q x = setP l x ∧ doA l q x = setA q x := by unfold doP doA; rw [if_pos h, if_pos h]; exact ⟨rfl, rfl⟩
theorem doP_no {l : List PairD} {q : List AcctD} {x : TxD} (h : okT l q x = false) : doP l q x = l ∧ doA l q x = q := by unfold doP doA; rw [if_neg (by rw [h]; simp), if_neg (by rw [h]; simp)]; exact ⟨rfl, rfl⟩
theorem okT_iff {l : List PairD} {q : List AcctD} {x : TxD} : okT l q x = true ↔ OkT l q x := dec_iff
theorem khasA_nil (s : Int) : khasA [] s = false := by
  cases h : khasA [] s
  · rfl
  · have := (dec_iff.1 h).1; simp at this
theorem khasP_nil (s : ByteArray) : khasP [] s = false := by
  cases h : khasP [] s
  · rfl
  · have := (dec_iff.1 h).1; simp at this
/-! ### the key that wakes -/
def wkX : TxD := ⟨1, 1, ⟨#[107]⟩, ⟨#[118]⟩⟩
theorem wk_ok22 : okT [] [] wkX = true := okT_iff.2 ⟨by decide, by rw [lastA_no (khasA_nil _)]; rfl, fun h => by simp at h, fun h => by simp at h⟩
theorem wk_may22 : mayT (doP [] [] wkX) (doA [] [] wkX) = true := mayT_iff.2 MayT.nil.do_
theorem wk_get22 : tgB (doP [] [] wkX) (doA [] [] wkX) wkX.k = wkX.v ∧ tgE (doP [] [] wkX) (doA [] [] wkX) wkX.k = 0 := by
  have hs : Srt PairD.k ltK [] := List.Pairwise.nil
  obtain ⟨h1, h2⟩ := setP_there hs wkX (by decide)
  unfold tgB tgE
  rw [if_pos wk_may22, if_pos wk_may22, (doP_yes wk_ok22).1, if_pos h1, h2]
  exact ⟨rfl, rfl⟩
theorem wk_len22 : (doP [] [] wkX).length ≤ 4096 ∧ (doA [] [] wkX).length ≤ 4096 := ⟨MayT.nil.do_.1.1, MayT.nil.do_.2.1⟩
end
/-! part Nt -/
section
open Go.RowKit
theorem PairsR.nil0 (w : World) : PairsR w none 0 [] := ⟨rfl, by simp [flat], by omega, fun h => absurd h (by omega)⟩
theorem AcctsR.nil0 (w : World) : AcctsR w none 0 [] := ⟨rfl, by simp [flat], by omega, fun h => absurd h (by omega)⟩
end
/-! part Pb -/
section
open Go.RowKit
/-! ### one behind the other -/
noncomputable def runT : List TxD → List PairD → List AcctD → List PairD × List AcctD
  | [], l, q => (l, q)
  | x :: xs, l, q => runT xs (doP l q x) (doA l q x)
noncomputable def runN : List TxD → List PairD → List AcctD → Nat
  | [], _, _ => 0
  | x :: xs, l, q => (if okT l q x = true then 1 else 0) + runN xs (doP l q x) (doA l q x)
theorem runT_may : ∀ (xs : List TxD) {l : List PairD} {q : List AcctD}, MayT l q → MayT (runT xs l q).1 (runT xs l q).2
  | [], _, _, h => h
  | x :: xs, _, _, h => runT_may xs h.do_
theorem runN_le : ∀ (xs : List TxD) (l : List PairD) (q : List AcctD), runN xs l q ≤ xs.length
  | [], _, _ => Nat.le_refl _
  | x :: xs, l, q => by
    have := runN_le xs (doP l q x) (doA l q x)
    unfold runN
    rw [List.length_cons]
    split <;> omega
theorem runT_step {tx : List TxD} {k : Nat} (hk : k < tx.length) (l : List PairD) (q : List AcctD) : runT (tx.drop k) l q = runT (tx.drop (k + 1)) (doP l q (xth tx k)) (doA l q (xth tx k)) ∧
    runN (tx.drop k) l q = (if okT l q (xth tx k) = true then 1 else 0) + runN (tx.drop (k + 1)) (doP l q (xth tx k)) (doA l q (xth tx k)) := by
  have e := drop_getD tx k hk
  have e2 : tx.getD k default = xth tx k := rfl
  rw [e2] at e
  rw [e]
  exact ⟨rfl, rfl⟩
/-! ### what a batch may be -/
def BmT (b : BatchD) : Prop := 1 ≤ b.au ∧ b.au ≤ 16 ∧ 1 ≤ b.n ∧ b.n ≤ 1099511627776 ∧ 1 ≤ b.tx.length ∧ b.tx.length ≤ 8 ∧ ∀ j, j < b.tx.length → txS (xth b.tx j) = true
noncomputable def bmT (b : BatchD) : Bool := dec (BmT b)
theorem bmT_iff {b : BatchD} : bmT b = true ↔ BmT b := dec_iff
set_option maxRecDepth 100000 in
set_option maxHeartbeats 1000000 in
theorem batch_May1 (x : TxD) (y : Bool) (w : World) (hy : txS x = y) : Calls Tryz.prog 138 #[.agg #[.int .i64 x.se, .int .i64 x.sq, .string x.k, .string x.v]] w fun e w' => e = .returned (.bool (!y)) ∧ Below w.heap.size w w' := by
  go_enter Tryz.func138, Tryz.ntmps138
  go_wp2_with fail
  refine (batch_MayTx x y _ hy).mono ?_
  rintro e w1 ⟨rfl, hb1⟩
  go_wp2_with fail
  go_ret
  exact ⟨rfl, by (repeat (first | (with_reducible exact Below.refl _ _) | (with_reducible assumption) | (with_reducible apply bel_alloc) | (with_reducible apply bel_drew) | (with_reducible apply bel_drewN) | (with_reducible refine bel_trans ?_ (by with_reducible assumption)) | (with_reducible refine bel_trans ?_ (HF.out _)) | ((with_reducible refine bel_set3 ?_ ?_); rotate_left; omega)))⟩
/-- The first one that may not be; -1: all may be. -/
def FirstX (l : List TxD) (n : Nat) (y : Int) : Prop := (y = -1 ∧ ∀ j, j < n → txS (xth l j) = true) ∨ ∃ k : Nat, y = (k : Int) ∧ k < n ∧ txS (xth l k) = false
set_option maxRecDepth 100000 in
set_option maxHeartbeats 2000000 in
theorem slices_IndexFunc_X (A : Option Addr) (n c : Nat) (l : List TxD) (w : World) (hl : TxsR w A n l) :
    Calls Tryz.prog 109 #[.slice A n c, .func (.func 138) #[] #[]] w fun e w' => ∃ y, e = .returned (.int .i64 y) ∧ FirstX l n y ∧ Below w.heap.size w w' := by
  have HL := Lib.hid hl
  have hnn : n ≤ 9223372036854775807 := hl.2.2.1
  clear hl
  go_enter Tryz.func109, Tryz.ntmps109
  go_wp2_with fail
  go_loopw [8] (fun ix wr => ∃ k : Nat, k ≤ n ∧ ix = .int .i64 k ∧ Hid (∀ j, j < k → txS (xth l j) = true) ∧ Below w.heap.size w wr) (fun ix _ => n - (intOf ix).toNat)
  case atStart => exact ⟨0, Nat.zero_le _, rfl, Lib.hid (fun j hj => absurd hj (by omega)), Below.refl _ _⟩
  case round =>
    obtain ⟨k, hk, rfl, HG, hbw⟩ := hrel
    (obtain ⟨wk, hwk⟩ : ∃ x, x = wr := ⟨_, rfl⟩); subst hwk
    by_cases hlt : k < n
    · obtain ⟨b, off, rfl, hb, hc⟩ := (HL.out.up hbw).at (by omega)
      obtain ⟨c0, c1, c2, c3⟩ := hc k hlt
      clear hc
      cases hy : txS (xth l k)
      · have HY := Lib.hid hy
        clear hy
        go_wp2_with (go_at_call 138; refine (batch_May1 (xth l k) false _ HY.out).mono ?_; rintro e w1 ⟨rfl, hb1⟩)
        go_ret
        exact ⟨k, rfl, .inr ⟨k, rfl, hlt, HY.out⟩, bel_trans hbw hb1⟩
      · have HY := Lib.hid hy
        clear hy
        go_wp2_with (go_at_call 138; refine (batch_May1 (xth l k) true _ HY.out).mono ?_; rintro e w1 ⟨rfl, hb1⟩)
        (first | (go_round; (case rel => exact ⟨k + 1, by omega, by go_num, Lib.hid (fun j hj => by (rcases Nat.lt_or_ge j k with h | h; exact HG.out j h; (obtain rfl : j = k := by omega); exact HY.out)), bel_trans hbw hb1⟩); (case measure => (simp [intOf] <;> omega))) | (go_roundw; (case rel => exact ⟨k + 1, by omega, by go_num, Lib.hid (fun j hj => by (rcases Nat.lt_or_ge j k with h | h; exact HG.out j h; (obtain rfl : j = k := by omega); exact HY.out)), bel_trans hbw hb1⟩); (case measure => (simp [intOf] <;> omega))) | (refine ⟨?_, by simp [intOf] <;> omega⟩; (repeat apply Exists.intro); refine ⟨?rel, ?fr⟩; (case fr => ((repeat' apply And.intro) <;> rfl)); (case rel => exact ⟨k + 1, by omega, by go_num, Lib.hid (fun j hj => by (rcases Nat.lt_or_ge j k with h | h; exact HG.out j h; (obtain rfl : j = k := by omega); exact HY.out)), bel_trans hbw hb1⟩)))
    · obtain rfl : k = n := by omega
      go_wp2_with fail
      go_ret
      exact ⟨-1, rfl, .inl ⟨rfl, HG.out⟩, hbw⟩
set_option maxRecDepth 100000 in
set_option maxHeartbeats 1000000 in
theorem slices_ContainsFunc_X (A : Option Addr) (n c : Nat) (l : List TxD) (w : World) (hl : TxsR w A n l) :
    Calls Tryz.prog 73 #[.slice A n c, .func (.func 138) #[] #[]] w fun e w' => ∃ y : Int, e = .returned (.bool (decide (0 ≤ y))) ∧ FirstX l n y ∧ Below w.heap.size w w' := by
  have HL := Lib.hid hl
  clear hl
  go_enter Tryz.func73, Tryz.ntmps73
  go_wp2_with fail
  refine (slices_IndexFunc_X A n c l _ (HL.out.up (by (repeat (first | (with_reducible exact Below.refl _ _) | (with_reducible assumption) | (with_reducible apply bel_alloc) | (with_reducible apply bel_drew) | (with_reducible apply bel_drewN) | (with_reducible refine bel_trans ?_ (by with_reducible assumption)) | (with_reducible refine bel_trans ?_ (HF.out _)) | ((with_reducible refine bel_set3 ?_ ?_); rotate_left; omega)))))).mono ?_
  rintro e w1 ⟨y, rfl, hf, hb1⟩
  go_wp2_with fail
  go_ret
  exact ⟨y, rfl, hf, by (repeat (first | (with_reducible exact Below.refl _ _) | (with_reducible assumption) | (with_reducible apply bel_alloc) | (with_reducible apply bel_drew) | (with_reducible apply bel_drewN) | (with_reducible refine bel_trans ?_ (by with_reducible assumption)) | (with_reducible refine bel_trans ?_ (HF.out _)) | ((with_reducible refine bel_set3 ?_ ?_); rotate_left; omega)))⟩
set_option maxRecDepth 100000 in
set_option maxHeartbeats 2000000 in
theorem batch_May (b : BatchD) (A : Option Addr) (n c : Nat) (y : Bool) (w : World) (hl : TxsR w A n b.tx) (hy : bmT b = y) : Calls Tryz.prog 112 #[.agg #[.int .i64 b.au, .int .i64 b.n, .slice A n c]] w fun e w' => e = .returned (.bool y) ∧ Below w.heap.size w w' := by
  have HL := Lib.hid hl
  have HN := Lib.hid hl.1
  have HY := Lib.hid hy
  clear hl hy
  obtain ⟨au, hau⟩ : ∃ au, b.au = au := ⟨_, rfl⟩
  obtain ⟨bn, hbn⟩ : ∃ bn, b.n = bn := ⟨_, rfl⟩
  rw [hau, hbn]
  have HAU := Lib.hid hau
  have HBN := Lib.hid hbn
  clear hau hbn
  have hno : ¬ (1 ≤ au ∧ au ≤ 16 ∧ 1 ≤ bn ∧ bn ≤ 1099511627776 ∧ 1 ≤ n ∧ n ≤ 8) → y = false := fun h => by
    rw [← HY.out]
    cases hb : bmT b
    · rfl
    · have := bmT_iff.1 hb
      exfalso; apply h
      rw [← HAU.out, ← HBN.out, ← HN.out]
      exact ⟨this.1, this.2.1, this.2.2.1, this.2.2.2.1, this.2.2.2.2.1, this.2.2.2.2.2.1⟩
  have HNO := Lib.hid hno
  clear hno
  go_enter Tryz.func112, Tryz.ntmps112
  by_cases h1 : 1 ≤ au
  case' neg => have hb1 : decide (au < 1) = true := by simp; omega
  case' pos =>
    have hb1 : decide (au < 1) = false := by simp; omega
    by_cases h2 : au ≤ 16
    case' neg => have hb2 : decide (16 < au) = true := by simp; omega
    case' pos =>
      have hb2 : decide (16 < au) = false := by simp; omega
      by_cases h3 : 1 ≤ bn
      case' neg => have hb3 : decide (bn < 1) = true := by simp; omega
      case' pos =>
        have hb3 : decide (bn < 1) = false := by simp; omega
        by_cases h4 : bn ≤ 1099511627776
        case' neg => have hb4 : decide (1099511627776 < bn) = true := by simp; omega
        case' pos =>
          have hb4 : decide (1099511627776 < bn) = false := by simp; omega
          by_cases h5 : 1 ≤ n
          case' neg => have hb5 : decide ((n : Int) < 1) = true := by simp; omega
          case' pos =>
            have hb5 : decide ((n : Int) < 1) = false := by simp; omega
            by_cases h6 : n ≤ 8
            case' neg => have hb6 : decide ((8 : Int) < (n : Int)) = true := by simp; omega
            case' pos =>
              have hb6 : decide ((8 : Int) < (n : Int)) = false := by simp; omega
              have hok := And.intro h1 (And.intro h2 (And.intro h3 (And.intro h4 (And.intro h5 h6))))
              have HOK := Lib.hid hok
              clear hok
              go_wp2_with fail
              refine (slices_ContainsFunc_X A n c b.tx _ (HL.out.up (by (repeat (first | (with_reducible exact Below.refl _ _) | (with_reducible assumption) | (with_reducible apply bel_alloc) | (with_reducible apply bel_drew) | (with_reducible apply bel_drewN) | (with_reducible refine bel_trans ?_ (by with_reducible assumption)) | (with_reducible refine bel_trans ?_ (HF.out _)) | ((with_reducible refine bel_set3 ?_ ?_); rotate_left; omega)))))).mono ?_
              rintro e w1 ⟨z, rfl, hf, hbel⟩
              have HF := Lib.hid hf
              clear hf
              go_wp2_with fail
              go_ret
              refine ⟨ret_bool ?_, by (repeat (first | (with_reducible exact Below.refl _ _) | (with_reducible assumption) | (with_reducible apply bel_alloc) | (with_reducible apply bel_drew) | (with_reducible apply bel_drewN) | (with_reducible refine bel_trans ?_ (by with_reducible assumption)) | (with_reducible refine bel_trans ?_ (HF.out _)) | ((with_reducible refine bel_set3 ?_ ?_); rotate_left; omega)))⟩
              rw [← HY.out, Bool.eq_iff_iff, bmT_iff]
              obtain ⟨a1, a2, a3, a4, a5, a6⟩ := HOK.out
              constructor
              · intro hz
                have hz2 : ¬ 0 ≤ z := by simpa using hz
                rcases HF.out with ⟨_, hall⟩ | ⟨k, hk, _⟩
                · exact ⟨by rw [HAU.out]; exact a1, by rw [HAU.out]; exact a2, by rw [HBN.out]; exact a3, by rw [HBN.out]; exact a4, by rw [HN.out]; exact a5, by rw [HN.out]; exact a6, by rw [HN.out]; exact hall⟩
                · omega
              · intro hB
                rcases HF.out with ⟨hm, _⟩ | ⟨k, hk, hkn, hkf⟩
                · subst hm; decide
                · have := hB.2.2.2.2.2.2 k (by rw [HN.out]; exact hkn)
                  rw [hkf] at this; cases this
  all_goals
    go_wp2_with fail
    go_ret
    exact ⟨ret_bool (by rw [HNO.out (by omega)]), by (repeat (first | (with_reducible exact Below.refl _ _) | (with_reducible assumption) | (with_reducible apply bel_alloc) | (with_reducible apply bel_drew) | (with_reducible apply bel_drewN) | (with_reducible refine bel_trans ?_ (by with_reducible assumption)) | (with_reducible refine bel_trans ?_ (HF.out _)) | ((with_reducible refine bel_set3 ?_ ?_); rotate_left; omega)))⟩
end
/-! part Pc -/
section
open Go.RowKit
variable {tb : TypeId} {rs : List Value}

/-- What Batch tells. -/
noncomputable def tbE (l : List PairD) (q : List AcctD) (b : BatchD) : Int := if mayT l q = true ∧ bmT b = true then 0 else 1
set_option maxRecDepth 100000 in
set_option maxHeartbeats 2000000 in
theorem ref4_Txs (A : Option Addr) (n c : Nat) (l : List TxD) (w : World) (hl : TxsR w A n l) : Calls Tryz.prog 31 #[.slice A n c] w fun e w' => ∃ y, e = .returned (.bool y) ∧ (y = true ↔ ∀ j, j < n → txS (xth l j) = true) ∧ Below w.heap.size w w' := by
  have HL := Lib.hid hl
  have hnn : n ≤ 9223372036854775807 := hl.2.2.1
  clear hl
  obtain ⟨y, hy⟩ : ∃ y, y = dec (∀ j, j < n → txS (xth l j) = true) := ⟨_, rfl⟩
  have HY : Hid (y = true ↔ ∀ j, j < n → txS (xth l j) = true) := Lib.hid (by rw [hy]; exact dec_iff)
  clear hy
  suffices h : Calls Tryz.prog 31 #[.slice A n c] w fun e w' => e = .returned (.bool y) ∧ Below w.heap.size w w' from h.mono fun e w' ⟨h1, h2⟩ => ⟨y, h1, HY.out, h2⟩
  go_enter Tryz.func31, Tryz.ntmps31
  go_wp2_with fail
  go_loopw [3] (fun ix wr => ∃ k : Nat, k ≤ n ∧ ix = .int .i64 k ∧ Hid (∀ j, j < k → txS (xth l j) = true) ∧ Below w.heap.size w wr) (fun ix _ => n - (intOf ix).toNat)
  case atStart => exact ⟨0, Nat.zero_le _, rfl, Lib.hid (fun j hj => absurd hj (by omega)), Below.refl _ _⟩
  case round =>
    obtain ⟨k, hk, rfl, HG, hbw⟩ := hrel
    (obtain ⟨wk, hwk⟩ : ∃ x, x = wr := ⟨_, rfl⟩); subst hwk
    by_cases hlt : k < n
    · obtain ⟨b, off, rfl, hb, hc⟩ := (HL.out.up hbw).at (by omega)
      obtain ⟨c0, c1, c2, c3⟩ := hc k hlt
      clear hc
      cases hx : txS (xth l k)
      · have HX := Lib.hid hx
        clear hx
        go_wp2_with (go_at_call 60; refine (ref4_Tx (xth l k) false _ HX.out).mono ?_; rintro e w1 ⟨rfl, hb1⟩)
        go_ret
        refine ⟨ret_bool ?_, bel_trans hbw hb1⟩
        cases y
        · rfl
        · have := HY.out.1 rfl k hlt
          rw [HX.out] at this; cases this
      · have HX := Lib.hid hx
        clear hx
        go_wp2_with (go_at_call 60; refine (ref4_Tx (xth l k) true _ HX.out).mono ?_; rintro e w1 ⟨rfl, hb1⟩)
        (first | (go_round; (case rel => exact ⟨k + 1, by omega, by go_num, Lib.hid (fun j hj => by (rcases Nat.lt_or_ge j k with h | h; exact HG.out j h; (obtain rfl : j = k := by omega); exact HX.out)), bel_trans hbw hb1⟩); (case measure => (simp [intOf] <;> omega))) | (go_roundw; (case rel => exact ⟨k + 1, by omega, by go_num, Lib.hid (fun j hj => by (rcases Nat.lt_or_ge j k with h | h; exact HG.out j h; (obtain rfl : j = k := by omega); exact HX.out)), bel_trans hbw hb1⟩); (case measure => (simp [intOf] <;> omega))) | (refine ⟨?_, by simp [intOf] <;> omega⟩; (repeat apply Exists.intro); refine ⟨?rel, ?fr⟩; (case fr => ((repeat' apply And.intro) <;> rfl)); (case rel => exact ⟨k + 1, by omega, by go_num, Lib.hid (fun j hj => by (rcases Nat.lt_or_ge j k with h | h; exact HG.out j h; (obtain rfl : j = k := by omega); exact HX.out)), bel_trans hbw hb1⟩)))
    · obtain rfl : k = n := by omega
      go_wp2_with fail
      go_ret
      exact ⟨ret_bool (HY.out.2 HG.out).symm, hbw⟩
set_option maxRecDepth 100000 in
set_option maxHeartbeats 2000000 in
theorem ref4_Batch (b : BatchD) (A : Option Addr) (n c : Nat) (y : Bool) (w : World) (hl : TxsR w A n b.tx) (hy : bmT b = y) : Calls Tryz.prog 69 #[.agg #[.int .i64 b.au, .int .i64 b.n, .slice A n c]] w fun e w' => e = .returned (.bool y) ∧ Below w.heap.size w w' := by
  have HL := Lib.hid hl
  have HN := Lib.hid hl.1
  have HY := Lib.hid hy
  clear hl hy
  obtain ⟨au, hau⟩ : ∃ au, b.au = au := ⟨_, rfl⟩
  obtain ⟨bn, hbn⟩ : ∃ bn, b.n = bn := ⟨_, rfl⟩
  rw [hau, hbn]
  have HAU := Lib.hid hau
  have HBN := Lib.hid hbn
  clear hau hbn
  have hno : ¬ (1 ≤ au ∧ au ≤ 16 ∧ idS bn = true ∧ 1 ≤ n ∧ n ≤ 8) → y = false := fun h => by
    rw [← HY.out]
    cases hb : bmT b
    · rfl
    · have := bmT_iff.1 hb
      exfalso; apply h
      rw [← HAU.out, ← HBN.out, ← HN.out]
      exact ⟨this.1, this.2.1, idS_iff.2 ⟨this.2.2.1, this.2.2.2.1⟩, this.2.2.2.2.1, this.2.2.2.2.2.1⟩
  have HNO := Lib.hid hno
  clear hno
  by_cases h1 : 1 ≤ au
  case' neg =>
    have hb1 : decide (1 ≤ au) = false := by simp; omega
    have HF : Hid (y = false) := Lib.hid (HNO.out (by omega))
  case' pos =>
    have hb1 : decide (1 ≤ au) = true := by simp; omega
    by_cases h2 : au ≤ 16
    case' neg =>
      have hb2 : decide (au ≤ 16) = false := by simp; omega
      have HF : Hid (y = false) := Lib.hid (HNO.out (by omega))
    case' pos =>
      have hb2 : decide (au ≤ 16) = true := by simp; omega
      cases h3 : idS bn
      case' false =>
        have HF : Hid (y = false) := Lib.hid (HNO.out (by rw [h3]; simp))
        have H3 := Lib.hid h3
        clear h3
      case' true =>
        have H3 := Lib.hid h3
        clear h3
        by_cases h5 : 1 ≤ n
        case' neg =>
          have hb5 : decide ((1 : Int) ≤ (n : Int)) = false := by simp; omega
          have HF : Hid (y = false) := Lib.hid (HNO.out (by omega))
        case' pos =>
          have hb5 : decide ((1 : Int) ≤ (n : Int)) = true := by simp; omega
          by_cases h6 : n ≤ 8
          case' neg =>
            have hb6 : decide ((n : Int) ≤ 8) = false := by simp; omega
            have HF : Hid (y = false) := Lib.hid (HNO.out (by omega))
          case' pos =>
            have hb6 : decide ((n : Int) ≤ 8) = true := by simp; omega
            go_enter Tryz.func69, Tryz.ntmps69
            go_wp2_with (go_at_call 105; refine (ref4_id _ true _ H3.out).mono ?_; rintro e w' ⟨rfl, rfl⟩)
            refine (ref4_Txs A n c b.tx _ (HL.out.up (by (repeat (first | (with_reducible exact Below.refl _ _) | (with_reducible assumption) | (with_reducible apply bel_alloc) | (with_reducible apply bel_drew) | (with_reducible apply bel_drewN) | (with_reducible refine bel_trans ?_ (by with_reducible assumption)) | (with_reducible refine bel_trans ?_ (HF.out _)) | ((with_reducible refine bel_set3 ?_ ?_); rotate_left; omega)))))).mono ?_
            rintro e w1 ⟨z, rfl, hf, hbel⟩
            have HF := Lib.hid hf
            clear hf
            go_wp2_with fail
            go_ret
            refine ⟨ret_bool ?_, by (repeat (first | (with_reducible exact Below.refl _ _) | (with_reducible assumption) | (with_reducible apply bel_alloc) | (with_reducible apply bel_drew) | (with_reducible apply bel_drewN) | (with_reducible refine bel_trans ?_ (by with_reducible assumption)) | (with_reducible refine bel_trans ?_ (HF.out _)) | ((with_reducible refine bel_set3 ?_ ?_); rotate_left; omega)))⟩
            rw [← HY.out, Bool.eq_iff_iff, bmT_iff, HF.out]
            have h34 := idS_iff.1 H3.out
            constructor
            · intro hall
              exact ⟨by rw [HAU.out]; exact h1, by rw [HAU.out]; exact h2, by rw [HBN.out]; exact h34.1, by rw [HBN.out]; exact h34.2, by rw [HN.out]; exact h5, by rw [HN.out]; exact h6, by rw [HN.out]; exact hall⟩
            · intro hB j hj
              exact hB.2.2.2.2.2.2 j (by rw [HN.out]; exact hj)
  all_goals
    go_enter Tryz.func69, Tryz.ntmps69
    go_wp2_with (first | (go_at_call 105; refine (ref4_id _ true _ H3.out).mono ?_; rintro e w' ⟨rfl, rfl⟩) | (go_at_call 105; refine (ref4_id _ false _ H3.out).mono ?_; rintro e w' ⟨rfl, rfl⟩))
    go_ret
    exact ⟨ret_bool (by rw [HF.out]), by (repeat (first | (with_reducible exact Below.refl _ _) | (with_reducible assumption) | (with_reducible apply bel_alloc) | (with_reducible apply bel_drew) | (with_reducible apply bel_drewN) | (with_reducible refine bel_trans ?_ (by with_reducible assumption)) | (with_reducible refine bel_trans ?_ (HF.out _)) | ((with_reducible refine bel_set3 ?_ ?_); rotate_left; omega)))⟩
end
/-! part Qe -/
section
open Go.RowKit
theorem info_Tx : (Tryz.prog.info? 41).map (fun i => (i.zero, i.size, i.bytes)) = some (some (.agg #[.int .i64 0, .int .i64 0, .string ⟨#[]⟩, .string ⟨#[]⟩]), 4, 48) := by kernel_rfl
theorem run_app_Tx (w : World) (B : Nat) (v : Value) (n : Nat) (xs : List Value) (hown : w.ownsRow B 41 4 v n xs) (vb off m c : Nat) (e : List Value) (hm : e.length = m * 4) (hv : ∀ j u, e[j]? = some u → w.cell? ⟨vb, off + j, none⟩ = some u) (h1e : ∀ u ∈ e, u.oneCell' = true) (hn : n + m ≤ 1000000000) (hB : B ≤ w.heap.size) :
    ∃ v' w', (Builtin.append_ #[22, 22] 22 #[v, .slice (some ⟨vb, off, none⟩) m c]).run Tryz.prog w = .ok v' w' ∧ w'.ownsRow B 41 4 v' (n + m) (xs ++ e) ∧ w.grownBy w' v.ownBlock ∧ Below B w w' ∧ (v'.ownBlock = v.ownBlock ∨ v'.ownBlock = some w.heap.size) := by
  obtain ⟨i0, hi, hz, hz1, hz2⟩ := info_parts info_Tx
  obtain ⟨v', w', hrun, h2, h3, _, h5⟩ := run_append_own_at (P := Tryz.prog) w B 22 22 41 i0 _ 4 48 Tryz.underlying22 hi hz hz1 hz2 rfl (by omega) v n xs hown ⟨vb, off, none⟩ m c e hm
    (by intro j u hu; rw [Addr.add_lit]; exact hv j u hu) h1e (by simp only [maxLen]; omega) (by omega) hB
  exact ⟨v', w', hrun, h2, h3, ⟨h3.os, h3.tape, h3.output, h3.size, fun k hk => h3.block k (by omega) (fun e => by have := (own_lt hown k e.symm).1; omega)⟩, h5⟩
def OwnX (w : World) (B : Nat) (v : Value) (l : List TxD) : Prop := w.ownsRow B 41 4 v l.length (flat encX l)
theorem OwnX.nil (w : World) (B : Nat) : OwnX w B (.slice none 0 0) [] := own_nil w B 4 _
theorem OwnX.txs {w : World} {B : Nat} {v : Value} {l : List TxD} (h : OwnX w B v l) (hl : l.length ≤ 9223372036854775807) : ∃ A c, v = .slice A l.length c ∧ TxsR w A l.length l ∧ l.length ≤ c ∧ c ≤ 9223372036854775807 := by
  obtain ⟨A, c, e, hr, _, h1, h2⟩ := own_row h hl
  exact ⟨A, c, e, ⟨rfl, hr⟩, h1, h2⟩
theorem OwnX.up {w w' : World} {B : Nat} {v : Value} {l : List TxD} (h : OwnX w B v l) (hb : Below w.heap.size w w') : OwnX w' B v l := own_up h hb
theorem OwnX.mono {w : World} {B B' : Nat} {v : Value} {l : List TxD} (h : OwnX w B v l) (hB : B' ≤ B) : OwnX w B' v l := own_mono h hB
theorem OwnX.set3 {w : World} {B : Nat} {v : Value} {l : List TxD} (h : OwnX w B v l) {b o : Nat} (hp : b < B) (u : Value) : OwnX (w.setCell ⟨b, o, none⟩ u) B v l := own_set3 h hp u
theorem take_xth (l : List TxD) (k : Nat) (h : k < l.length) : l.take (k + 1) = l.take k ++ [xth l k] := by
  rw [List.take_succ_eq_append_getElem h]; simp [xth, h]
theorem wpList_appX {w : World} {ops : Array Oper} {rest : List Oper} {o : Oper} {a : Act} {Q : Exit → Act → World → Prop} (hgd : o.guard = none) (s x : Operand)
    (ho : o.op = .call { callee := .builtin .append, args := #[s, x], argTypes := #[22, 22] }) (hty : o.type = 22)
    (B : Nat) (v : Value) (l : List TxD) (hs : a.eval s = v) (hown : OwnX w B v l) (vb off m c : Nat) (e : List TxD) (hx : a.eval x = .slice (some ⟨vb, off, none⟩) m c) (hm : e.length = m) (hv : ∀ j u, (flat encX e)[j]? = some u → w.cell? ⟨vb, off + j, none⟩ = some u)
    (hlen : l.length + m ≤ 900000000) (hB : B ≤ w.heap.size)
    (h : ∀ v' w', OwnX w' B v' (l ++ e) → w.grownBy w' v.ownBlock → Below B w w' → (v'.ownBlock = v.ownBlock ∨ v'.ownBlock = some w.heap.size) → wpList Tryz.prog ops Q rest (a.put o.dst v') w') : wpList Tryz.prog ops Q (o :: rest) a w := by
  obtain ⟨v', w', hrun, h2, h3, h4, h5⟩ := run_app_Tx w B v l.length (flat encX l) hown vb off m c (flat encX e) (by rw [flat_len encX_len, hm]) hv (flat_oneCell encX_one e) (by omega) hB
  have hown' : OwnX w' B v' (l ++ e) := by unfold OwnX; rw [List.length_append, hm, flat_app]; exact h2
  exact Lib.wpList_append_run w hgd s x _ _ ho v _ hs hx v' w' (by rw [hty]; exact hrun) (h v' w' hown' h3 h4 h5)
theorem step_appX {ops : Array Oper} {o : Oper} {a : Act} {w : World} {K : Act → World → Prop} {Q : Exit → Act → World → Prop} {E : Prop}
    (hg : o.guard = none) (s x : Operand) (ho : o.op = .call { callee := .builtin .append, args := #[s, x], argTypes := #[22, 22] }) (hty : o.type = 22)
    (B : Nat) (v : Value) (l : List TxD) (hs : a.eval s = v) (hown : OwnX w B v l) (vb off m c : Nat) (e : List TxD) (hx : a.eval x = .slice (some ⟨vb, off, none⟩) m c) (hm : e.length = m) (hv : ∀ j u, (flat encX e)[j]? = some u → w.cell? ⟨vb, off + j, none⟩ = some u)
    (hlen : l.length + m ≤ 900000000) (hB : B ≤ w.heap.size)
    (h : ∀ v' w', OwnX w' B v' (l ++ e) → w.grownBy w' v.ownBlock → Below B w w' → (v'.ownBlock = v.ownBlock ∨ v'.ownBlock = some w.heap.size) → K (a.put o.dst v') w') :
    if Region.wanted o (yielded ops a.tmps) = true then Oper.wp Tryz.prog o a w K Q else E := by
  have hw : Region.wanted o (yielded ops a.tmps) = true := by simp [Region.wanted, hg]
  rw [if_pos hw]
  obtain ⟨v', w', hrun, h2, h3, h4, h5⟩ := run_app_Tx w B v l.length (flat encX l) hown vb off m c (flat encX e) (by rw [flat_len encX_len, hm]) hv (flat_oneCell encX_one e) (by omega) hB
  have hown' : OwnX w' B v' (l ++ e) := by unfold OwnX; rw [List.length_append, hm, flat_app]; exact h2
  exact Lib.wp_append_run w s x _ _ ho v _ hs hx v' w' (by rw [hty]; exact hrun) (h v' w' hown' h3 h4 h5)
theorem wpList_app0X {w : World} {ops : Array Oper} {rest : List Oper} {o : Oper} {a : Act} {Q : Exit → Act → World → Prop} (hgd : o.guard = none) (s x : Operand)
    (ho : o.op = .call { callee := .builtin .append, args := #[s, x], argTypes := #[22, 22] })
    (v : Value) (A : Option Addr) (n cap : Nat) (hs : a.eval s = v) (hv : v = .slice A n cap) (hA : A = none → cap = 0) (hnc : n ≤ cap) (xa : Option Addr) (c : Nat) (hx : a.eval x = .slice xa 0 c)
    (h : wpList Tryz.prog ops Q rest (a.put o.dst v) w) : wpList Tryz.prog ops Q (o :: rest) a w := by
  obtain ⟨i0, hi, hz, hz1, hz2⟩ := info_parts info_Tx
  have hrun : (Builtin.append_ #[22, 22] o.type #[v, .slice xa 0 c]).run Tryz.prog w = .ok v w := by
    subst hv
    cases A with
    | none =>
      have hc0 := hA rfl
      subst hc0
      obtain rfl : n = 0 := by omega
      cases xa <;> simp [Builtin.append_, run_underlying Tryz.underlying22, sizeOf, typeInfo, hi, Builtin.lenOf, Builtin.firstCells, loadCells, loadCellsFrom, hnc, storeCells]
    | some ad => cases xa <;> simp [Builtin.append_, run_underlying Tryz.underlying22, sizeOf, typeInfo, hi, Builtin.lenOf, Builtin.firstCells, loadCells, loadCellsFrom, hnc, storeCells]
  exact Lib.wpList_append_run w hgd s x _ _ ho _ _ hs hx _ _ hrun h
theorem box_X {w : World} {g : Nat} {p : TxD} (h : BoxR w g (encX p)) : ∀ j u, (flat encX [p])[j]? = some u → w.cell? ⟨g, 0 + j, none⟩ = some u := fun j u hj => by
  rw [Nat.zero_add]
  exact h.2 j u (by simpa [flat] using hj)
theorem drop_X {w : World} {b off n : Nat} {l : List TxD} {i : Nat} (h : TxsR w (some ⟨b, off, none⟩) n l) (hi : i < n) : ∀ j u, (flat encX (l.drop i))[j]? = some u → w.cell? ⟨b, off + i * 4 + j, none⟩ = some u := fun j u hj => by
  obtain ⟨b', off', e, hb, hc⟩ := h.2.2.2 (by omega)
  injection e with e; injection e with e1 e2 e3
  subst e1; subst e2
  rw [flat_drop encX_len, List.getElem?_drop] at hj
  rw [Nat.add_assoc]
  exact hc _ u hj
theorem TxsR.take {w : World} {A : Option Addr} {n i : Nat} {l : List TxD} (h : TxsR w A n l) (hi : i ≤ n) : TxsR w A i (l.take i) := by
  refine ⟨by rw [List.length_take, h.1]; omega, by rw [flat_len encX_len, List.length_take, h.1]; rw [Nat.min_eq_left hi], by have := h.2.2.1; omega, fun h0 => ?_⟩
  obtain ⟨b, off, e, hb, hc⟩ := h.2.2.2 (by omega)
  refine ⟨b, off, e, hb, fun j u hj => hc j u ?_⟩
  rw [flat_take encX_len, List.getElem?_take] at hj
  split at hj
  · exact hj
  · cases hj
set_option maxRecDepth 100000 in
set_option maxHeartbeats 1000000 in
theorem ref0_CopyTxs (A : Option Addr) (n c : Nat) (l : List TxD) (w : World) (hl : TxsR w A n l) (hn : n ≤ 800000000) :
    Calls Tryz.prog 26 #[.slice A n c] w fun e w' => ∃ v, e = .returned v ∧ OwnX w' w.heap.size v l ∧ Below w.heap.size w w' := by
  have HL := Lib.hid hl
  have HN := Lib.hid hl.1
  clear hl
  go_enter Tryz.func26, Tryz.ntmps26
  go_wp2_with fail
  go_loopw [3, 4] (fun v i wr => ∃ j : Nat, j ≤ n ∧ i = .int .i64 j ∧ OwnX wr w.heap.size v (l.take j) ∧ Below w.heap.size w wr) (fun _ i _ => n - (intOf i).toNat)
  case atStart => exact ⟨0, Nat.zero_le _, rfl, OwnX.nil _ _, Below.refl _ _⟩
  case round =>
    obtain ⟨j, hj, rfl, hown, hbw⟩ := hrel
    by_cases hlt : j < n
    · obtain ⟨b, off, rfl, hb, hc⟩ := (HL.out.up hbw).at (by omega)
      obtain ⟨c0, c1, c2, c3⟩ := hc j hlt
      clear hc
      have hlenj : (l.take j).length ≤ j := by simp; omega
      have hsz := hbw.size
      go_wp2_with (at_builtin; refine wpList_appX rfl (.tmp 11) (.tmp 16) rfl rfl (w.heap.size) u3 _ rfl (own_alloc hown _) _ 0 1 _ [xth l j] rfl rfl (box_X (BoxR.new _ (encX (xth l j)) _)) (by omega) (le_alloc hsz) ?_; intro v1 w1 hown1 hg1 hbel1 hat1)
      (first | (go_round; (case rel => exact ⟨j + 1, by omega, by go_num, by rw [take_xth l j (by rw [HN.out]; exact hlt)]; exact hown1, Below.trans (bel_alloc hbw) hbel1⟩); (case measure => (simp [intOf] <;> omega))) | (go_roundw; (case rel => exact ⟨j + 1, by omega, by go_num, by rw [take_xth l j (by rw [HN.out]; exact hlt)]; exact hown1, Below.trans (bel_alloc hbw) hbel1⟩); (case measure => (simp [intOf] <;> omega))) | (refine ⟨?_, by simp [intOf] <;> omega⟩; (repeat apply Exists.intro); refine ⟨?rel, ?fr⟩; (case fr => ((repeat' apply And.intro) <;> rfl)); (case rel => exact ⟨j + 1, by omega, by go_num, by rw [take_xth l j (by rw [HN.out]; exact hlt)]; exact hown1, Below.trans (bel_alloc hbw) hbel1⟩)))
    · go_wp2_with fail
      go_ret
      have e : l.take j = l := List.take_of_length_le (by rw [HN.out]; omega)
      exact ⟨_, rfl, e ▸ hown, hbw⟩
set_option maxRecDepth 100000 in
set_option maxHeartbeats 2000000 in
theorem ref0_EqTxs (A : Option Addr) (n c : Nat) (A' : Option Addr) (n' c' : Nat) (l : List TxD) (w : World) (hl : TxsR w A n l) (hl' : TxsR w A' n' l) : Calls Tryz.prog 80 #[.slice A n c, .slice A' n' c'] w fun e w' => e = .returned (.bool true) ∧ Below w.heap.size w w' := by
  have hnn : n' = n := by rw [← hl.1, ← hl'.1]
  subst hnn
  have HL := Lib.hid hl
  have HL' := Lib.hid hl'
  have hnn : n' ≤ 9223372036854775807 := hl.2.2.1
  clear hl hl'
  go_enter Tryz.func80, Tryz.ntmps80
  go_wp2_with fail
  go_loopw [5] (fun ix wr => ∃ k : Nat, k ≤ n' ∧ ix = .int .i64 k ∧ Below w.heap.size w wr) (fun ix _ => n' - (intOf ix).toNat)
  case atStart => exact ⟨0, Nat.zero_le _, rfl, Below.refl _ _⟩
  case round =>
    obtain ⟨k, hk, rfl, hbw⟩ := hrel
    (obtain ⟨wk, hwk⟩ : ∃ x, x = wr := ⟨_, rfl⟩); subst hwk
    by_cases hlt : k < n'
    · obtain ⟨b, off, rfl, hb, hc⟩ := (HL.out.up hbw).at (by omega)
      obtain ⟨b', off', rfl, hb', hc'⟩ := (HL'.out.up hbw).at (by omega)
      obtain ⟨c0, c1, c2, c3⟩ := hc k hlt
      obtain ⟨d0, d1, d2, d3⟩ := hc' k hlt
      clear hc hc'
      go_wp2_with fail
      refine wp_region_fam (by kernel_rfl) (by kernel_rfl) (fun ι F hne hF hcl => ?_)
      have hcF0 := fun n o => (bcell (hF n)).1 (b) o (by first | (simp; done) | (simp; omega) | omega)
      have hcF1 := fun n o => (bcell (hF n)).1 (b') o (by first | (simp; done) | (simp; omega) | omega)
      have HF := Lib.hid hF; clear hF
      have HC := Lib.hid hcl; clear hcl
      repeat (any_goals (first
       | go_big_quiet_step (first | (fail))
       | (refine wpQuiet_guard _ _ _ rfl rfl ?_; (fail_if_success (intro b' hb; have h2 := hb.symm; have : b' = true := h2.trans (by with_reducible rfl))); (fail_if_success (intro b' hb; have h2 := hb.symm; have : b' = false := h2.trans (by with_reducible rfl))); intro b' hb; simp only [hb]; cases b' <;> (try simp only [Bool.not_eq_true', Bool.not_eq_false', decide_eq_true_eq, decide_eq_false_iff_not, Int.not_lt, Int.not_le, Bool.and_eq_true, Bool.or_eq_true, Bool.or_eq_false_iff, beq_iff_eq, beq_eq_false_iff_ne, Int.natCast_pos] at hb))))
      all_goals (refine wpQuiet_nil ?_; intro nq)
      have hFwf := HF.out nq
      clear HF HC hne
      generalize F nq = wf at *
      go_wp2_with fail
      (first | (go_round; (case rel => exact ⟨k + 1, by omega, by go_num, bel_trans hbw hFwf⟩); (case measure => (simp [intOf] <;> omega))) | (go_roundw; (case rel => exact ⟨k + 1, by omega, by go_num, bel_trans hbw hFwf⟩); (case measure => (simp [intOf] <;> omega))) | (refine ⟨?_, by simp [intOf] <;> omega⟩; (repeat apply Exists.intro); refine ⟨?rel, ?fr⟩; (case fr => ((repeat' apply And.intro) <;> rfl)); (case rel => exact ⟨k + 1, by omega, by go_num, bel_trans hbw hFwf⟩)))
    · go_wp2_with fail
      go_ret
      exact ⟨rfl, hbw⟩
set_option maxRecDepth 100000 in
set_option maxHeartbeats 1000000 in
theorem ref0_CopyBatch (b : BatchD) (A : Option Addr) (n c : Nat) (w : World) (hl : TxsR w A n b.tx) (hn : n ≤ 800000000) :
    Calls Tryz.prog 86 #[.agg #[.int .i64 b.au, .int .i64 b.n, .slice A n c]] w fun e w' => ∃ A' c', e = .returned (.agg #[.int .i64 b.au, .int .i64 b.n, .slice A' n c']) ∧ TxsR w' A' n b.tx ∧ Below w.heap.size w w' := by
  have HL := Lib.hid hl
  have HN := Lib.hid hl.1
  clear hl
  go_enter Tryz.func86, Tryz.ntmps86
  go_wp2_with fail
  refine (ref0_CopyTxs A n c b.tx _ (HL.out.up (by (repeat (first | (with_reducible exact Below.refl _ _) | (with_reducible assumption) | (with_reducible apply bel_alloc) | (with_reducible apply bel_drew) | (with_reducible apply bel_drewN) | (with_reducible refine bel_trans ?_ (by with_reducible assumption)) | (with_reducible refine bel_trans ?_ (HF.out _)) | ((with_reducible refine bel_set3 ?_ ?_); rotate_left; omega))))) hn).mono ?_
  rintro e w1 ⟨v, rfl, hown, hb1⟩
  obtain ⟨A1, c1, rfl, hx, _⟩ := hown.txs (by rw [HN.out]; omega)
  rw [HN.out] at hx hown ⊢
  have hown' := hown.mono (B' := w.heap.size + 3) (by simp)
  have HO := Lib.hid hown'
  clear hown hown' hx
  have hz_w1 : w.heap.size + 3 ≤ w1.heap.size := (by have hq := (hb1).size; (try simp at hq); omega); have hc0_w1 := fun o => (bcell hb1).1 (w.heap.size) o (by first | (simp; done) | (simp; omega) | omega); have hc1_w1 := fun o => (bcell hb1).1 (w.heap.size + 1) o (by first | (simp; done) | (simp; omega) | omega); have hc2_w1 := fun o => (bcell hb1).1 (w.heap.size + 2) o (by first | (simp; done) | (simp; omega) | omega); have hf0_w1 := fun o => (bcell hb1).2 (w.heap.size) o (by first | (simp; done) | (simp; omega) | omega); have hf1_w1 := fun o => (bcell hb1).2 (w.heap.size + 1) o (by first | (simp; done) | (simp; omega) | omega); have hf2_w1 := fun o => (bcell hb1).2 (w.heap.size + 2) o (by first | (simp; done) | (simp; omega) | omega)
  go_wp2_with fail
  have ho2 := (((HO.out.set3 (b := w.heap.size + 1 + 1) (o := 2) (by omega) (.slice A1 n c1)).set3 (b := w.heap.size + 1) (o := 0) (by omega) (.int .i64 b.au)).set3 (b := w.heap.size + 1) (o := 1) (by omega) (.int .i64 b.n)).set3 (b := w.heap.size + 1) (o := 2) (by omega) (.slice A1 n c1)
  obtain ⟨A2, c2, e2, hx, _⟩ := ho2.txs (by rw [HN.out]; omega)
  rw [HN.out] at e2 hx
  injection e2 with e2 e3 e4
  subst e2
  exact bodyPost_ret (v := .agg #[.int .i64 b.au, .int .i64 b.n, .slice A1 n c1]) (by simp [results, Tryz.results86, go_sem, hc0_w1, hc1_w1, hc2_w1]) rfl ⟨A1, c1, rfl, hx, by (repeat (first | (with_reducible exact Below.refl _ _) | (with_reducible assumption) | (with_reducible apply bel_alloc) | (with_reducible apply bel_drew) | (with_reducible apply bel_drewN) | (with_reducible refine bel_trans ?_ (by with_reducible assumption)) | (with_reducible refine bel_trans ?_ (HF.out _)) | ((with_reducible refine bel_set3 ?_ ?_); rotate_left; omega)))⟩
set_option maxRecDepth 100000 in
set_option maxHeartbeats 1000000 in
theorem ref0_EqBatch (b : BatchD) (A : Option Addr) (n c : Nat) (A' : Option Addr) (n' c' : Nat) (w : World) (hl : TxsR w A n b.tx) (hl' : TxsR w A' n' b.tx) :
    Calls Tryz.prog 43 #[.agg #[.int .i64 b.au, .int .i64 b.n, .slice A n c], .agg #[.int .i64 b.au, .int .i64 b.n, .slice A' n' c']] w fun e w' => e = .returned (.bool true) ∧ Below w.heap.size w w' := by
  have HL := Lib.hid hl
  have HL' := Lib.hid hl'
  clear hl hl'
  go_enter Tryz.func43, Tryz.ntmps43
  go_wp2_with fail
  refine (ref0_EqTxs _ _ _ _ _ _ b.tx _ (HL.out.up (by (repeat (first | (with_reducible exact Below.refl _ _) | (with_reducible assumption) | (with_reducible apply bel_alloc) | (with_reducible apply bel_drew) | (with_reducible apply bel_drewN) | (with_reducible refine bel_trans ?_ (by with_reducible assumption)) | (with_reducible refine bel_trans ?_ (HF.out _)) | ((with_reducible refine bel_set3 ?_ ?_); rotate_left; omega))))) (HL'.out.up (by (repeat (first | (with_reducible exact Below.refl _ _) | (with_reducible assumption) | (with_reducible apply bel_alloc) | (with_reducible apply bel_drew) | (with_reducible apply bel_drewN) | (with_reducible refine bel_trans ?_ (by with_reducible assumption)) | (with_reducible refine bel_trans ?_ (HF.out _)) | ((with_reducible refine bel_set3 ?_ ?_); rotate_left; omega)))))).mono ?_
  rintro e w1 ⟨rfl, hb1⟩
  go_wp2_with fail
  go_ret
  exact ⟨rfl, by (repeat (first | (with_reducible exact Below.refl _ _) | (with_reducible assumption) | (with_reducible apply bel_alloc) | (with_reducible apply bel_drew) | (with_reducible apply bel_drewN) | (with_reducible refine bel_trans ?_ (by with_reducible assumption)) | (with_reducible refine bel_trans ?_ (HF.out _)) | ((with_reducible refine bel_set3 ?_ ?_); rotate_left; omega)))⟩
end
end Go.Proofs.YtgfakefcmbpboaaGreat
