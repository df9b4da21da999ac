/- Votes: how they lie; what may be: at the reference, at the program. -/
import Derived.Test.YtgljmljmljccgaaYb
import Derived.Test.YtgljmljmljccgaaGi
namespace Go.Proofs.Ytgljmljmljccgaa
open Go.RowKit
set_option linter.unusedSimpArgs false
set_option linter.unusedVariables false

open Classical in
noncomputable def dec (p : Prop) : Bool := decide p
theorem dec_iff {p : Prop} : dec p = true ↔ p := by simp [dec]
theorem dec_true {p : Prop} (h : p) : true = dec p := (dec_iff.2 h).symm
theorem dec_false {p : Prop} (h : ¬ p) : false = dec p := by simp [dec, h]
structure VoteD where
  ro : Int
  au : Int
  di : Int
deriving Inhabited
def encV (v : VoteD) : List Value := [.int .i64 v.ro, .int .i64 v.au, .int .i64 v.di]
theorem encV_len (v : VoteD) : (encV v).length = 3 := rfl
theorem encV_one (v : VoteD) : ∀ u ∈ encV v, u.oneCell' = true := by
  intro u hu
  simp only [encV, List.mem_cons, List.not_mem_nil, or_false] at hu
  rcases hu with rfl | rfl | rfl <;> rfl
def vth (l : List VoteD) (i : Nat) : VoteD := l.getD i default
def VotesR (w : World) (A : Option Addr) (n : Nat) (l : List VoteD) : Prop := l.length = n ∧ RowV w A n 3 (flat encV l)
theorem VotesR.up {w w' : World} {A n l} (h : VotesR w A n l) (hb : Below w.heap.size w w') : VotesR w' A n l := ⟨h.1, h.2.up hb⟩
def VoteAt (w : World) (b off : Nat) (v : VoteD) : Prop := w.cell? ⟨b, off, none⟩ = some (.int .i64 v.ro) ∧ w.cell? ⟨b, off + 1, none⟩ = some (.int .i64 v.au) ∧ w.cell? ⟨b, off + 2, none⟩ = some (.int .i64 v.di)
theorem VotesR.at {w : World} {A n l} (h : VotesR w A n l) (hn : 0 < n) : ∃ b off, A = some ⟨b, off, none⟩ ∧ b < w.heap.size ∧ ∀ j, j < n → VoteAt w b (off + j * 3) (vth l j) := by
  obtain ⟨b, off, e, hb, hc⟩ := h.2.2.2 hn
  refine ⟨b, off, e, hb, fun j hj => ?_⟩
  have hat : ∀ r u, r < 3 → (encV (vth l j))[r]? = some u → w.cell? ⟨b, off + j * 3 + r, none⟩ = some u := fun r u hr hu => by
    rw [Nat.add_assoc]
    exact hc _ u (by rw [flat_at encV_len l j r (by rw [h.1]; exact hj) hr]; exact hu)
  exact ⟨hat 0 _ (by omega) rfl, hat 1 _ (by omega) rfl, hat 2 _ (by omega) rfl⟩
def voteS (v : VoteD) : Bool := decide (1 ≤ v.ro ∧ v.ro ≤ 1099511627776 ∧ 1 ≤ v.au ∧ v.au ≤ 16 ∧ 1 ≤ v.di ∧ v.di ≤ 65536)
theorem voteS_iff {v : VoteD} : voteS v = true ↔ (1 ≤ v.ro ∧ v.ro ≤ 1099511627776 ∧ 1 ≤ v.au ∧ v.au ≤ 16 ∧ 1 ≤ v.di ∧ v.di ≤ 65536) := by simp [voteS]
def digS (d : Int) : Bool := decide (1 ≤ d ∧ d ≤ 65536)
theorem digS_iff {d : Int} : digS d = true ↔ (1 ≤ d ∧ d ≤ 65536) := by simp [digS]
set_option maxRecDepth 100000 in
set_option maxHeartbeats 1000000 in
theorem committee_Digest (d : Int) (w : World) : Calls Try.prog 79 #[.int .i64 d] w fun e w' => e = .returned (.bool (digS d)) ∧ w = w' := by
  go_enter Try.func79, Try.ntmps79
  go_wp2
  all_goals (go_ret; refine ⟨ret_bool ?_, rfl⟩; rw [Bool.eq_iff_iff, digS_iff]; simp; try omega)
set_option maxRecDepth 100000 in
set_option maxHeartbeats 1000000 in
theorem ref0_Digest (d : Int) (w : World) : Calls Try.prog 75 #[.int .i64 d] w fun e w' => e = .returned (.bool (digS d)) ∧ w = w' := by
  go_enter Try.func75, Try.ntmps75
  go_wp2
  all_goals (go_ret; refine ⟨ret_bool ?_, rfl⟩; rw [Bool.eq_iff_iff, digS_iff]; simp; try omega)
def befV (a b : VoteD) : Bool := befS a.ro a.au b.ro b.au
def GoodV (l : List VoteD) (k : Nat) : Prop := ∀ j, j < k → voteS (vth l j) = true ∧ (0 < j → befV (vth l (j - 1)) (vth l j) = true)
def MayV (l : List VoteD) : Prop := l.length ≤ 65536 ∧ GoodV l l.length
noncomputable def mayV (l : List VoteD) : Bool := dec (MayV l)
theorem mayV_iff {l : List VoteD} : mayV l = true ↔ MayV l := dec_iff
theorem GoodV.succ {l : List VoteD} {k : Nat} (h : GoodV l k) (h1 : voteS (vth l k) = true) (h2 : 0 < k → befV (vth l (k - 1)) (vth l k) = true) : GoodV l (k + 1) := fun j hj => by
  rcases Nat.lt_or_ge j k with h3 | h3
  · exact h j h3
  · obtain rfl : j = k := by omega
    exact ⟨h1, h2⟩
def VMJ (A : Option Addr) (n c : Nat) (l : List VoteD) (w : World) (a' : Act) (w' : World) : Prop :=
  ∃ (k : Nat) (u1 u2 u4 u5 u6 u7 u8 u9 u10 u11 u12 u13 u14 u15 u16 u17 u18 u19 u20 u21 u22 u23 u24 u25 u26 u27 u28 u29 u30 u31 u32 u33 u34 u35 : Value), a' = { tmps := #[.slice A n c, u1, u2, .int .i64 (k : Int), u4, u5, u6, u7, u8, u9, u10, u11, u12, u13, u14, u15, u16, u17, u18, u19, u20, u21, u22, u23, u24, u25, u26, u27, u28, u29, u30, u31, u32, u33, u34, u35], defers := [] } ∧ n ≤ 65536 ∧ k ≤ n ∧ GoodV l k ∧ Below w.heap.size w w'
theorem VMJ.mk {A : Option Addr} {n c : Nat} {l : List VoteD} {w : World} {ix : Int} {k : Nat} {u1 u2 u4 u5 u6 u7 u8 u9 u10 u11 u12 u13 u14 u15 u16 u17 u18 u19 u20 u21 u22 u23 u24 u25 u26 u27 u28 u29 u30 u31 u32 u33 u34 u35 : Value} {w' : World} (hn : n ≤ 65536) (hk : k ≤ n) (h : GoodV l k) (hb : Below w.heap.size w w') (hix : ix = (k : Int)) :
    VMJ A n c l w { tmps := #[.slice A n c, u1, u2, .int .i64 ix, u4, u5, u6, u7, u8, u9, u10, u11, u12, u13, u14, u15, u16, u17, u18, u19, u20, u21, u22, u23, u24, u25, u26, u27, u28, u29, u30, u31, u32, u33, u34, u35], defers := [] } w' := hix ▸ ⟨k, _, _, _, _, _, _, _, _, _, _, _, _, _, _, _, _, _, _, _, _, _, _, _, _, _, _, _, _, _, _, _, _, _, _, rfl, hn, hk, h, hb⟩
def VME (l : List VoteD) (w : World) (a' : Act) (w' : World) : Prop :=
  ∃ (u0 u1 u2 u3 u4 u5 u6 u7 u8 u9 u10 u11 u12 u13 u14 u15 u16 u17 u18 u19 u20 u21 u22 u23 u24 u25 u26 u27 u28 u29 u30 u31 u32 u33 u34 u35 : Value), a' = { tmps := #[u0, u1, u2, u3, u4, u5, u6, u7, u8, u9, u10, u11, u12, u13, u14, u15, u16, u17, u18, u19, u20, u21, u22, u23, u24, u25, u26, u27, u28, u29, u30, u31, u32, u33, u34, u35], defers := [] } ∧ mayV l = false ∧ Below w.heap.size w w'
end Go.Proofs.Ytgljmljmljccgaa
