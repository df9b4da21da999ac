/- Unlike ones: EqTxs, EqNumbers, EqBatch, EqHeader, EqCert, EqMessage tell false. -/
import Derived.Test.YtgfakefcmbpboaaSxWx2
import Derived.Test.YtgfakefcmbpboaaSxWh
import Derived.Deep.RegionHeld3
namespace Go.Proofs.Ytgfakefcmbpboaa
open Go.RowKit
set_option linter.unusedSimpArgs false
set_option linter.unusedVariables false

theorem dec_t {p : Prop} (h : p) : dec p = true := dec_iff.2 h
end Go.Proofs.Ytgfakefcmbpboaa
namespace Go.Proofs.Ytgfakefcmbpboaa
open Go.RowKit
set_option linter.unusedSimpArgs false
set_option linter.unusedVariables false

def bat0 : BatchD := ⟨0, 0, []⟩
def hea0 : HeaderD := ⟨0, 0, [], []⟩
def cer0 : CertD := ⟨⟨0, 0, [], []⟩, 0, []⟩
/-- What a message of its kind has, of what it says. -/
def onlyD (M : MsgD) : MsgD :=
  if M.ki = 1 ∨ M.ki = 3 then ⟨M.ki, M.fr, M.tt, M.di, M.b, hea0, cer0, []⟩
  else if M.ki = 2 then ⟨M.ki, M.fr, M.tt, M.di, bat0, hea0, cer0, []⟩
  else ⟨M.ki, M.fr, M.tt, 0, bat0, hea0, cer0, M.ds⟩
def okM (M : MsgD) (n : Int) : Prop :=
  if M.ki = 1 ∨ M.ki = 3 then digS M.di = true ∧ bmT M.b = true ∧ M.b.au ≤ n
  else if M.ki = 2 then digS M.di = true
  else 1 ≤ M.ds.length ∧ M.ds.length ≤ 16 ∧ crisS M.ds 1 65536 = true
def hdM (M : MsgD) (n : Int) : Prop := isS n = true ∧ 1 ≤ M.fr ∧ M.fr ≤ n ∧ 1 ≤ M.tt ∧ M.tt ≤ n ∧ M.fr ≠ M.tt
noncomputable def msgB (M : MsgD) (n : Int) : Bool := dec (hdM M n ∧ okM M n ∧ onlyD M = M)
theorem wp_world {F : World → Prop} {w : World} (h : ∀ W, W = w → F W) : F w := h w rfl
theorem Blk.rng {w : World} {g : Nat} {t : TypeId} {cs : List Value} (h : Blk w g t cs) : w.rangeAt g 0 cs := fun j u hu => by rw [Nat.zero_add]; exact h.box.2 j u hu
theorem Blk.new1 (w : World) (t t' : TypeId) (cs ds : List Value) : Blk ((w.alloc (.cells cs.toArray t)).alloc (.cells ds.toArray t')) (w.heap.size + 1) t' ds := by
  have h := Blk.new (w.alloc (.cells cs.toArray t)) t' ds
  rwa [show (w.alloc (.cells cs.toArray t)).heap.size = w.heap.size + 1 by simp] at h
theorem wpList_load_midG {P : Program} {ops : Array Oper} {rest : List Oper} {op : Oper} {a : Act} {w : World} {Q : Exit → Act → World → Prop} (hg : Region.wanted op (yielded ops a.tmps) = true) (ty : TypeId) (x : Operand) (ho : op.op = .load ty x)
    (b o : Nat) (hx : a.eval x = .pointer (some ⟨b, o, none⟩)) (cs : List Value) (d : TypeDesc) (hc : w.rangeAt b o cs)
    (hu : P.underlying ty = some d) (hd : d.isRow = true) (hi : (P.info? ty).map (·.size) = some cs.length)
    (h : wpList P ops Q rest (a.put op.dst (.agg cs.toArray)) w) : wpList P ops Q (op :: rest) a w :=
  wpList_step fun _ hK => by rw [if_pos hg]; exact wp_load_mid ty x ho b o hx cs d hc hu hd hi (hK _ _ h)
theorem TxsR.nil (w : World) (A : Option Addr) : TxsR w A 0 [] := ⟨rfl, by simp [flat], by omega, fun h => absurd h (by omega)⟩
theorem HeaderR.nil (w : World) : HeaderR w ⟨⟨none, 0, 0⟩, ⟨none, 0, 0⟩⟩ hea0 := ⟨IntsR.nil _ _, IntsR.nil _ _⟩
theorem CertR.nil (w : World) : CertR w ⟨⟨⟨none, 0, 0⟩, ⟨none, 0, 0⟩⟩, ⟨none, 0, 0⟩⟩ cer0 := ⟨HeaderR.nil _, IntsR.nil _ _⟩
theorem msgB_iff {M : MsgD} {n : Int} {y : Bool} (h : msgB M n = y) : y = true ↔ (hdM M n ∧ okM M n ∧ onlyD M = M) := by rw [← h]; exact dec_iff
end Go.Proofs.Ytgfakefcmbpboaa
