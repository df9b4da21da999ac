/- Tables: a key's value. -/
import Derived.Test.YtbakkpabiknlmaaSzNe
namespace Go.Proofs.Ytbakkpabiknlmaa
open Go.RowKit
set_option linter.unusedSimpArgs false
set_option linter.unusedVariables false

set_option maxRecDepth 100000 in
set_option maxHeartbeats 1000000 in
theorem table_pair (A : Option Addr) (n c : Nat) (l : List PairD) (bx : Value) (key : ByteArray) (lo : Nat) (y : Bool) (w : World) (hl : PairsR w A n l) (hP : SortedP l) (hn : n ≤ 1000000000) (hlo : kposP l key = lo) (hy : khasP l key = y) (hbx : bx.oneCell' = true) :
    Calls Try.prog 72 #[.agg #[.slice A n c, bx], .string key] w fun e w' => e = .returned (.tuple #[.int .i64 lo, .bool y]) ∧ Below w.heap.size w w' := by
  have HL := Lib.hid hl
  have HP := Lib.hid hP
  clear hl hP
  go_enter Try.func72, Try.ntmps72
  go_wp2_with fail
  refine (bsf_P A n c l key lo y _ (HL.out.up (by (repeat (first | (with_reducible exact Below.refl _ _) | (with_reducible assumption) | (with_reducible apply bel_alloc) | (with_reducible apply bel_drew) | (with_reducible apply bel_drewN) | (with_reducible refine bel_trans ?_ (by with_reducible assumption)) | (with_reducible refine bel_trans ?_ (HF.out _)) | (with_reducible refine bel_set ?_ (by simp) _) | (with_reducible refine bel_set ?_ (by simp; omega) _) | (with_reducible refine bel_set ?_ (by omega) _))))) HP.out hn hlo hy).mono ?_
  rintro e w1 ⟨rfl, hb1⟩
  go_wp2_with fail
  go_ret2
  exact ⟨rfl, by (repeat (first | (with_reducible exact Below.refl _ _) | (with_reducible assumption) | (with_reducible apply bel_alloc) | (with_reducible apply bel_drew) | (with_reducible apply bel_drewN) | (with_reducible refine bel_trans ?_ (by with_reducible assumption)) | (with_reducible refine bel_trans ?_ (HF.out _)) | (with_reducible refine bel_set ?_ (by simp) _) | (with_reducible refine bel_set ?_ (by simp; omega) _) | (with_reducible refine bel_set ?_ (by omega) _)))⟩
theorem khasP_lt {l : List PairD} {key : ByteArray} {lo : Nat} (hlo : kposP l key = lo) (h : khasP l key = true) : lo < l.length ∧ (pth l lo).k = key := by
  have := dec_iff.1 h; rw [hlo] at this; exact this
theorem khasA_lt {l : List AcctD} {key : Int} {lo : Nat} (hlo : kposA l key = lo) (h : khasA l key = true) : lo < l.length ∧ (ath l lo).se = key := by
  have := dec_iff.1 h; rw [hlo] at this; exact this
end Go.Proofs.Ytbakkpabiknlmaa
