/- FetchWants: the statement: whatever argument is given, FetchWants returns true and changes nothing. No conditions. -/
import Derived.Test.YtnngeaibdnnpoaaSgHs9
import Derived.WalkKit
import Derived.WalkLawsBesides
import Derived.WalkSpells
import Derived.Deep.QuietTactic
import Derived.BigQuiet
import Derived.Lib.Hide
import Derived.Deep.Light
import Derived.Maps.AppendAt
import Derived.ScopeJumps
import Derived.WalkMore
import Derived.Laws.CopyRow
import Derived.Lib.AppendZerosOnto
import Derived.Lib.Overlaps
import Derived.Deep.RegionLaw
import Derived.Lib.SliceRun
import Derived.Deep.RegionWith
import Derived.ProofKit
import Derived.OpenShut
import Derived.ChangeSlices
import Derived.ChangeOld
import Derived.Below
import Derived.Deep.Slices
import Derived.Lib.Bytealg
import Derived.Deep.Cut
import Derived.Deep.CutRange
import Derived.ChangeArms
import Derived.SizedLaws
import Derived.Deep.MidRow
import Derived.Deep.RegionHeld3
namespace Go.Proofs.Ytnngeaibdnnpoaa
set_option linter.unusedSimpArgs false
set_option linter.unusedVariables false

section
open Go.RowKit
end
section
open Go.RowKit
end
section
open Go.RowKit
section
variable {α : Type} {enc : α → Value} {z : α} {w : World} {g : Nat} {S : Int → α}
end

end
section
open Go.RowKit
section
variable {w w' : World} {B : Nat} {v : Value} {l : List Int}
theorem OwnI.alloc (h : OwnI w B v l) (o : Obj) : OwnI (w.alloc o) B v l := h.up ((Below.refl _ _).alloc (Nat.le_refl _) _)
end

section
variable {w w' : World} {g : Nat} {t : TypeId} {cs : List Value}
end

section
variable {P : Program} {a : Act} {w : World} {Q : Exit → Act → World → Prop}
end
end
section
open Go.RowKit
section
variable {α : Type} {enc : α → List Value} {k : Nat} (hk : ∀ x, (enc x).length = k)
include hk
end
end
section
open Go.RowKit
end
section
open Go.RowKit
end
section
open Go.RowKit
end
section
open Go.RowKit
end
section
open Go.RowKit
end
section
open Go.RowKit
end
section
open Go.RowKit Go.ChangeShapes Go.WideShapes Go.ChangeAt
section
variable {H : Type} {enc : TypeId × Value → H} {w : World} {base : Nat} {spare : Nat → Bool} {held : Bool}
end
end
section
open Go.RowKit
end
section
open Go.RowKit
end
section
open Go.RowKit
end
end Go.Proofs.Ytnngeaibdnnpoaa
namespace Go.Proofs.Ytnngeaibdnnpoaa
set_option linter.unusedSimpArgs false
set_option linter.unusedVariables false

section
open Go.RowKit
end
section
open Go.RowKit
end
section
open Go.RowKit
end
section
open Go.RowKit
end
section
open Go.RowKit
end
section
open Go.RowKit
end
section
open Go.RowKit
end
section
open Go.RowKit
end
section
open Go.RowKit
end
section
open Go.RowKit
end
section
open Go.RowKit
variable {tb : TypeId} {rs : List Value}
theorem Below.set1 {w : World} {C b o : Nat} (hb : C ≤ b) (u : Value) : Below C w (w.setCell ⟨b, o, none⟩ u) := (Below.refl C w).setCell hb u
end
section
set_option linter.unusedSectionVars false

section
variable {α K : Type} [Inhabited α] {f : α → K} {lt : K → K → Bool}
end
end
section
open Go.RowKit
end
section
open Go.RowKit Go.ChangeShapes Go.WideShapes Go.ChangeAt
section
variable {H : Type} {enc : TypeId × Value → H} {w : World} {base : Nat} {spare : Nat → Bool} {held : Bool}
end
end
section
open Go.RowKit
end
section
open Go.RowKit
end
section
open Go.RowKit
end
section
end
section
open Go.RowKit
end
section
open Go.RowKit
end
section
open Go.RowKit
variable {tb : TypeId} {rs : List Value}

end
section
open Go.RowKit
end
end Go.Proofs.Ytnngeaibdnnpoaa
namespace Go.Proofs.Ytnngeaibdnnpoaa
set_option linter.unusedSimpArgs false
set_option linter.unusedVariables false

section
open Go.RowKit
theorem ref0_Digests (A : Option Addr) (n c : Nat) (l : List Int) (w : World) (hl : IntsR w A n l) :
    Calls Try.prog 51 #[.slice A n c] w fun e w' => e = .returned (.bool (betS l 1 65536)) ∧ w = w' := by
  go_enter Try.func51, Try.ntmps51
  go_wp2_with (go_at_call 70; refine (ref0_Between _ _ _ l _ _ _ hl).mono ?_; rintro e w' ⟨rfl, rfl⟩)
  go_ret
  exact ⟨rfl, rfl⟩
set_option maxRecDepth 100000 in
set_option maxHeartbeats 1000000 in
theorem ref0_CopyNumbers (A : Option Addr) (n c : Nat) (l : List Int) (w : World) (hl : IntsR w A n l) (hn : n ≤ 1000000000) :
    Calls Try.prog 53 #[.slice A n c] w fun e w' => ∃ v, e = .returned v ∧ OwnI w' w.heap.size v l ∧ Below w.heap.size w w' := by
  have HL := Lib.hid hl
  have hN := hl.1
  have HN := Lib.hid hN
  clear hl hN
  go_enter Try.func53, Try.ntmps53
  go_wp2_with fail
  go_loopw [3, 4] (fun v i wr => ∃ j : Nat, j ≤ n ∧ i = .int .i64 j ∧ OwnI wr w.heap.size v (l.take j) ∧ Below w.heap.size w wr) (fun _ i _ => n - (intOf i).toNat)
  case atStart => exact ⟨0, Nat.zero_le _, rfl, OwnI.nil _ _, Below.refl _ _⟩
  case round =>
    obtain ⟨j, hj, rfl, hown, hbw⟩ := hrel
    by_cases hlt : j < n
    · obtain ⟨b, off, rfl, hb, hc⟩ := (HL.out.up hbw).2.2 (by omega)
      have hcj := hc j hlt
      clear hc
      have hlenj : (l.take j).length ≤ j := by simp; omega
      have hsz := hbw.size
      go_wp2_with (at_builtin; refine wpList_app1 rfl (.tmp 11) (.tmp 16) rfl (w.heap.size) u3 _ rfl (hown.alloc _) _ (nth l j) rfl (cell0_alloc _ _ _) (by omega) (le_alloc hsz) ?_; intro v1 w1 hown1 hg1 hbel1 hat1)
      (first | (go_round; (case rel => exact ⟨j + 1, by omega, by go_num, by rw [take_nth l j (by rw [HN.out]; exact hlt)]; exact hown1, Below.trans (bel_alloc hbw) hbel1⟩); (case measure => (simp [intOf] <;> omega))) | (go_roundw; (case rel => exact ⟨j + 1, by omega, by go_num, by rw [take_nth l j (by rw [HN.out]; exact hlt)]; exact hown1, Below.trans (bel_alloc hbw) hbel1⟩); (case measure => (simp [intOf] <;> omega))) | (refine ⟨?_, by simp [intOf] <;> omega⟩; (repeat apply Exists.intro); refine ⟨?rel, ?fr⟩; (case fr => ((repeat' apply And.intro) <;> rfl)); (case rel => exact ⟨j + 1, by omega, by go_num, by rw [take_nth l j (by rw [HN.out]; exact hlt)]; exact hown1, Below.trans (bel_alloc hbw) hbel1⟩)))
    · go_wp2_with fail
      go_ret
      have e : l.take j = l := List.take_of_length_le (by rw [HN.out]; omega)
      exact ⟨_, rfl, e ▸ hown, hbw⟩
end
section
open Go.RowKit Go.ChangeShapes Go.WideShapes Go.ChangeAt
section
variable {H : Type} {enc : TypeId × Value → H} {w : World} {base : Nat} {spare : Nat → Bool} {held : Bool}
end
end
section
open Go.RowKit
end
section
open Go.RowKit
end
section
open Go.RowKit
end
section
open Go.RowKit
end
end Go.Proofs.Ytnngeaibdnnpoaa
namespace Go.Proofs.Ytnngeaibdnnpoaa
open Go.RowKit Go.ChangeShapes Go.WideShapes Go.ChangeAt
set_option linter.unusedSimpArgs false
set_option linter.unusedVariables false

theorem step_appQ {ops : Array Oper} {o : Oper} {a : Act} {w : World} {K : Act → World → Prop} {Q : Exit → Act → World → Prop} {E : Prop}
    (hg : o.guard = none) (s x : Operand) (ho : o.op = .call { callee := .builtin .append, args := #[s, x], argTypes := #[22, 22] }) (hty : o.type = 22)
    (B : Nat) (v : Value) (l : List FRowD) (hs : a.eval s = v) (hown : OwnQ w B v l) (vb off m c : Nat) (e : List FRowD) (hx : a.eval x = .slice (some ⟨vb, off, none⟩) m c) (hm : e.length = m) (hv : ∀ j u, (flat encQ e)[j]? = some u → w.cell? ⟨vb, off + j, none⟩ = some u)
    (hlen : l.length + m ≤ 900000000) (hB : B ≤ w.heap.size)
    (h : ∀ v' w', OwnQ w' B v' (l ++ e) → w.grownBy w' v.ownBlock → Below B w w' → (v'.ownBlock = v.ownBlock ∨ v'.ownBlock = some w.heap.size) → K (a.put o.dst v') w') :
    if Region.wanted o (yielded ops a.tmps) = true then Oper.wp Try.prog o a w K Q else E := by
  have hw : Region.wanted o (yielded ops a.tmps) = true := by simp [Region.wanted, hg]
  rw [if_pos hw]
  obtain ⟨v', w', hrun, h2, h3, h4, h5⟩ := run_app_Row w B v l.length (flat encQ l) hown vb off m c (flat encQ e) (by rw [flat_len encQ_len, hm]) hv (flat_oneCell encQ_one e) (by omega) hB
  have hown' : OwnQ w' B v' (l ++ e) := by unfold OwnQ; rw [List.length_append, hm, flat_app]; exact h2
  exact Lib.wp_append_run w s x _ _ ho v _ hs hx v' w' (by rw [hty]; exact hrun) (h v' w' hown' h3 h4 h5)
theorem wpList_app0Q {w : World} {ops : Array Oper} {rest : List Oper} {o : Oper} {a : Act} {Q : Exit → Act → World → Prop} (hgd : o.guard = none) (s x : Operand)
    (ho : o.op = .call { callee := .builtin .append, args := #[s, x], argTypes := #[22, 22] })
    (v : Value) (A : Option Addr) (n cap : Nat) (hs : a.eval s = v) (hv : v = .slice A n cap) (hA : A = none → cap = 0) (hnc : n ≤ cap) (xa : Option Addr) (c : Nat) (hx : a.eval x = .slice xa 0 c)
    (h : wpList Try.prog ops Q rest (a.put o.dst v) w) : wpList Try.prog ops Q (o :: rest) a w := by
  obtain ⟨i0, hi, hz, hz1, hz2⟩ := info_parts info_Row
  have hrun : (Builtin.append_ #[22, 22] o.type #[v, .slice xa 0 c]).run Try.prog w = .ok v w := by
    subst hv
    cases A with
    | none =>
      have hc0 := hA rfl
      subst hc0
      obtain rfl : n = 0 := by omega
      cases xa <;> simp [Builtin.append_, run_underlying Try.underlying22, sizeOf, typeInfo, hi, Builtin.lenOf, Builtin.firstCells, loadCells, loadCellsFrom, hnc, storeCells]
    | some ad => cases xa <;> simp [Builtin.append_, run_underlying Try.underlying22, sizeOf, typeInfo, hi, Builtin.lenOf, Builtin.firstCells, loadCells, loadCellsFrom, hnc, storeCells]
  exact Lib.wpList_append_run w hgd s x _ _ ho _ _ hs hx _ _ hrun h
section
variable {H : Type} {enc : TypeId × Value → H} {w : World} {base : Nat} {spare : Nat → Bool} {held : Bool}
end
end Go.Proofs.Ytnngeaibdnnpoaa
namespace Go.Proofs.Ytnngeaibdnnpoaa
open Go.RowKit
set_option linter.unusedSimpArgs false
set_option linter.unusedVariables false

set_option maxRecDepth 100000 in
set_option maxHeartbeats 1000000 in
theorem ref21_Kind (k : Int) (y : Bool) (w : World) (hy : kdS k = y) : Calls Try.prog 50 #[.int .i64 k] w fun e w' => e = .returned (.bool y) ∧ w = w' := by
  have HY := Lib.hid hy
  clear hy
  go_enter Try.func50, Try.ntmps50
  go_wp2_with (go_at_call 46; refine (ref21_kind _ y _ HY.out).mono ?_; rintro e w' ⟨rfl, rfl⟩)
  go_ret
  exact ⟨rfl, rfl⟩
set_option maxRecDepth 100000 in
set_option maxHeartbeats 1000000 in
theorem ref21_peer (id nodes t : Int) (A : Option Addr) (n c : Nat) (y : Int) (w : World) (h1 : 1 ≤ id) (h2 : id ≤ nodes) (h3 : 2 ≤ nodes) (h4 : nodes ≤ 16) (h5 : 0 ≤ t) (h6 : t ≤ 1099511627776) (hy : peerI id nodes t = y) : Calls Try.prog 91 #[.agg #[.int .i64 id, .int .i64 nodes, .slice A n c], .int .i64 t] w fun e w' => e = .returned (.int .i64 y) ∧ Below w.heap.size w w' := by
  obtain ⟨a1, a2, a3, a4⟩ := peer_bd (t := t) h1 h2 h3 h4
  have HY : Hid ((id + t % (nodes - 1)) % nodes + 1 = y) := Lib.hid hy
  clear hy
  have hn1 : nodes - 1 ≠ 0 := by omega
  have hn0 : nodes ≠ 0 := by omega
  have hnn : (nodes - 1 == 0) = false := by simp; omega
  have hnb : (nodes == 0) = false := by simp; omega
  go_enter Try.func91, Try.ntmps91
  go_wp2_with fail
  refine wp_region_fam (by kernel_rfl) (by kernel_rfl) (fun ι F hne hF hcl => ?_)
  have hcF0 := fun n o => (bcell (hF n)).1 (w.heap.size) o (by first | (simp; done) | (simp; omega) | omega)
  have HF := Lib.hid hF; clear hF
  have HC := Lib.hid hcl; clear hcl
  repeat (any_goals (first
   | go_big_quiet_step (first | fail)
   | (refine wpQuiet_guard _ _ _ rfl rfl ?_; (fail_if_success (intro b' hb; have h2 := hb.symm; have : b' = true := h2.trans (by with_reducible rfl))); (fail_if_success (intro b' hb; have h2 := hb.symm; have : b' = false := h2.trans (by with_reducible rfl))); intro b' hb; simp only [hb]; cases b' <;> (try simp only [Bool.not_eq_true', Bool.not_eq_false', decide_eq_true_eq, decide_eq_false_iff_not, Int.not_lt, Int.not_le, Bool.and_eq_true, Bool.or_eq_true, Bool.or_eq_false_iff, beq_iff_eq, beq_eq_false_iff_ne, Int.natCast_pos] at hb))))
  all_goals (refine wpQuiet_nil ?_; intro nq)
  all_goals (go_wp2_with fail; go_ret; exact ⟨ret_int HY.out, by (repeat (first | (with_reducible exact Below.refl _ _) | (with_reducible assumption) | (with_reducible apply bel_alloc) | (with_reducible apply bel_drew) | (with_reducible apply bel_drewN) | (with_reducible refine bel_trans ?_ (by with_reducible assumption)) | (with_reducible refine bel_trans ?_ (HF.out _)) | (with_reducible refine bel_set ?_ (by simp) _) | (with_reducible refine bel_set ?_ (by simp; omega) _) | (with_reducible refine bel_set ?_ (by omega) _)))⟩)
end Go.Proofs.Ytnngeaibdnnpoaa
namespace Go.Proofs.Ytnngeaibdnnpoaa
open Go.RowKit
set_option linter.unusedSimpArgs false
set_option linter.unusedVariables false

theorem InM.keep {S : TypeId → Prop} {w w' : World} {B g j : Nat} {tr : TypeId} {cur : Array Value} (h : InM w B g j) (hk : KeepS S w w') (hg : w.heap[g]? = some (.cells cur tr (0, 0))) (hS : ¬ S tr) : InM w' B g j := by
  obtain ⟨P, M, h1, h2⟩ := h
  exact ⟨P, M, fun r u hu => (cell_keep hk hg hS).trans (h1 r u hu), h2.keep hk⟩
structure MilM (M : MsgD) : Prop where
  b : M.b.tx.length ≤ 1000000
  h1 : M.h.ba.length ≤ 1000000
  h2 : M.h.pa.length ≤ 1000000
  c1 : M.c.h.ba.length ≤ 1000000
  c2 : M.c.h.pa.length ≤ 1000000
  c3 : M.c.si.length ≤ 1000000
  ds : M.ds.length ≤ 1000000
theorem own_nlen {w : World} {B k n : Nat} {t : TypeId} {s : SlP} {xs : List Value} (h : w.ownsRow B t k s.v n xs) : s.n = n := by
  rcases h.2 with ⟨e, e2⟩ | ⟨g, cap, cur, e, hb, hg, h1, h2, h3, _⟩
  · unfold SlP.v at e; injection e with e1 e2' e3; omega
  · unfold SlP.v at e; injection e with e1 e2' e3
theorem OwnM.rowsM {w : World} {B : Nat} {P : MsgP} {M : MsgD} (h : OwnM w B P M) (hs : MilM M) : RowsM w B P :=
  ⟨own_rowT h.b, by rw [own_nlen (show World.ownsRow _ _ _ _ (SlP.v P.b) _ _ from h.b)]; exact hs.b, own_rowT h.h1, by rw [own_nlen (show World.ownsRow _ _ _ _ (SlP.v P.h.b) _ _ from h.h1)]; exact hs.h1, own_rowT h.h2, by rw [own_nlen (show World.ownsRow _ _ _ _ (SlP.v P.h.p) _ _ from h.h2)]; exact hs.h2, own_rowT h.c1, by rw [own_nlen (show World.ownsRow _ _ _ _ (SlP.v P.c.h.b) _ _ from h.c1)]; exact hs.c1, own_rowT h.c2, by rw [own_nlen (show World.ownsRow _ _ _ _ (SlP.v P.c.h.p) _ _ from h.c2)]; exact hs.c2, own_rowT h.c3, by rw [own_nlen (show World.ownsRow _ _ _ _ (SlP.v P.c.s) _ _ from h.c3)]; exact hs.c3, own_rowT h.ds, by rw [own_nlen (show World.ownsRow _ _ _ _ (SlP.v P.ds) _ _ from h.ds)]; exact hs.ds⟩
theorem msgs_rowM {w : World} {B : Nat} {s : SlP} {ps : List MsgP} {l : List MsgD} (h : OwnT dMsg w B s.v ps l) (hs : ∀ x ∈ l, MilM x) : RowM w B s := by
  obtain ⟨h1, h2, h3⟩ := h
  rcases h1.2 with ⟨e, _⟩ | ⟨g, cap, cur, e, hb, hg, a1, a2, a3, a4⟩
  · exact .inl e
  · unfold SlP.v at e
    injection e with e1 e2 e3
    refine .inr ⟨g, cur, e1, hb, hg, by omega, by omega, by rw [a3, e3]; rfl, fun j hj => ?_⟩
    have hjl : j < l.length := by omega
    have hin : OwnM w B (ps.getD j default) (l.getD j default) := h3 j hjl
    refine ⟨ps.getD j default, l.getD j default, fun r u hu => ?_, hin.rowsM (hs _ (getD_mem hjl))⟩
    have hr : r < 18 := (List.getElem?_eq_some_iff.1 hu).1
    have := World.ownsRow.cells h1 (g := g) (by unfold SlP.v; rw [e1]; rfl) (j * 18 + r) u (by have h9 := dcells_at dMsg h2 hjl (r := r) hr; rw [show j * 18 + r = j * dMsg.k + r from rfl, h9]; exact hu)
    simpa [Addr.add_lit] using this
end Go.Proofs.Ytnngeaibdnnpoaa
namespace Go.Proofs.Ytnngeaibdnnpoaa
open Go.RowKit
set_option linter.unusedSimpArgs false
set_option linter.unusedVariables false

theorem fN_big (id nodes : Int) (l : List FRowD) (hl : l.length ≤ 64) : ∀ s, ∀ x ∈ fN id nodes l s, BigM x
  | 0, x, h => by simp [fN] at h
  | s + 1, x, h => by
    rw [fN, List.mem_append] at h
    rcases h with h | h
    · exact fN_big id nodes l hl s x h
    · simp only [fS, chM, List.mem_map, List.mem_range] at h
      obtain ⟨i, _, rfl⟩ := h
      exact fBig (by simp; omega)
theorem fL_big (id nodes : Int) (l : List FRowD) (hl : l.length ≤ 64) (hn : nodes ≤ 16) : BigMs (fL id nodes l) := by
  unfold fL
  split
  · exact ⟨by simp, fun x h => by simp at h⟩
  · exact ⟨by have := fN_len id nodes l hl (2 * nodes.toNat); omega, fN_big id nodes l hl _⟩
end Go.Proofs.Ytnngeaibdnnpoaa
namespace Go.Proofs.Ytnngeaibdnnpoaa
open Go.RowKit
set_option linter.unusedSimpArgs false
set_option linter.unusedVariables false

set_option maxRecDepth 100000 in
set_option maxHeartbeats 2000000 in
theorem fetch_Want_bad (id nodes k : Int) (A : Option Addr) (n c : Nat) (rows : List FRowD) (lA : Option Addr) (ln lc : Nat) (L : List Int) (w : World) (hl : RowsR w A n rows) (hL : IntsR w lA ln L) (hb : ¬ (mayF ⟨id, nodes, rows⟩ = true ∧ kdS k = true ∧ betS L 1 65536 = true)) :
    Calls Try.prog 10 #[.agg #[.int .i64 id, .int .i64 nodes, .slice A n c], .int .i64 k, .slice lA ln lc] w fun e w' => e = .returned (.tuple #[.agg #[.int .i64 0, .int .i64 0, .slice none 0 0], .slice none 0 0, .int .i64 1]) ∧ Below w.heap.size w w' := by
  obtain ⟨ym, hm⟩ : ∃ y, mayF ⟨id, nodes, rows⟩ = y := ⟨_, rfl⟩
  obtain ⟨yk, hk⟩ : ∃ y, kdS k = y := ⟨_, rfl⟩
  obtain ⟨yd, hd⟩ : ∃ y, betS L 1 65536 = y := ⟨_, rfl⟩
  have HM := Lib.hid hm
  have HK := Lib.hid hk
  have HD := Lib.hid hd
  have HL := Lib.hid hl
  have HLL := Lib.hid hL
  have HBAD : Hid (¬ (ym = true ∧ yk = true ∧ yd = true)) := Lib.hid (by rw [← hm, ← hk, ← hd]; exact hb)
  clear hl hL hm hk hd hb
  go_enter Try.func10, Try.ntmps10
  go_upto_region 1 with fail
  refine wp_two (fun W0 hW0 => ?_)
  have hb0 : Below w.heap.size w W0 := by rw [hW0]; (repeat (first | (with_reducible exact Below.refl _ _) | (with_reducible assumption) | (with_reducible apply bel_alloc) | (with_reducible apply bel_drew) | (with_reducible apply bel_drewN) | (with_reducible refine bel_trans ?_ (by with_reducible assumption)) | (with_reducible refine bel_trans ?_ (HF.out _)) | (with_reducible refine bel_set ?_ (by simp) _) | (with_reducible refine bel_set ?_ (by simp; omega) _) | (with_reducible refine bel_set ?_ (by omega) _)))
  have hs0 : W0.heap.size = w.heap.size + 2 := by rw [hW0]; simp
  have HF0 : Hid (Blk W0 w.heap.size 24 [.int .i64 id, .int .i64 nodes, .slice A n c] ∧ Blk W0 (w.heap.size + 1) 24 [.int .i64 0, .int .i64 0, .slice none 0 0]) := Lib.hid (by
    rw [hW0]
    have h1 : Blk (w.alloc (.cells #[.int .i64 id, .int .i64 nodes, .slice A n c] 24)) w.heap.size 24 [.int .i64 id, .int .i64 nodes, .slice A n c] := Blk.new _ 24 [.int .i64 id, .int .i64 nodes, .slice A n c]
    have h2 := h1.up (bel_alloc (Below.refl _ _) : Below _ _ ((w.alloc (.cells #[.int .i64 id, .int .i64 nodes, .slice A n c] 24)).alloc (.cells #[.int .i64 0, .int .i64 0, .slice none 0 0] 24)))
    have h3 := Blk.new (w.alloc (.cells #[.int .i64 id, .int .i64 nodes, .slice A n c] 24)) 24 [.int .i64 0, .int .i64 0, .slice none 0 0]
    exact ⟨h2, by simpa using h3⟩)
  clear hW0
  have HF := Lib.hid HF0.out.1
  have HG := Lib.hid HF0.out.2
  clear HF0
  have xl := HF.out.lt
  have xf := HF.out.frozen
  have x_0 := (HF.out.box).2 0 _ rfl; have x_1 := (HF.out.box).2 1 _ rfl; have x_2 := (HF.out.box).2 2 _ rfl
  have gl := HG.out.lt
  have gf := HG.out.frozen
  have g_0 := (HG.out.box).2 0 _ rfl; have g_1 := (HG.out.box).2 1 _ rfl; have g_2 := (HG.out.box).2 2 _ rfl
  cases ym
  case false =>
    go_wp2_with (first | (go_at_call 25; refine (fetch_May id nodes rows A n c _ _ (HL.out.up hb0) HM.out).mono ?_; rintro e w1 ⟨rfl, hb1⟩; have hb01 := bel_trans hb0 hb1; clear xl xf x_0 x_1 x_2 gl gf g_0 g_1 g_2; have HF1 := Lib.hid (HF.out.up hb1); have HG1 := Lib.hid (HG.out.up hb1); have xl := HF1.out.lt; have xf := HF1.out.frozen; have x_0 := (HF1.out.box).2 0 _ rfl; have x_1 := (HF1.out.box).2 1 _ rfl; have x_2 := (HF1.out.box).2 2 _ rfl; have gl := HG1.out.lt; have gf := HG1.out.frozen; have g_0 := (HG1.out.box).2 0 _ rfl; have g_1 := (HG1.out.box).2 1 _ rfl; have g_2 := (HG1.out.box).2 2 _ rfl) | (go_at_call 26; refine (fetch_kind _ _ _ HK.out).mono ?_; rintro e w' ⟨rfl, rfl⟩) | (go_at_call 27; refine (slices_Contains_D lA ln lc L _ _ (HLL.out.up hb01) HD.out).mono ?_; rintro e w2 ⟨rfl, hb2⟩; have hb02 := bel_trans hb01 hb2; clear xl xf x_0 x_1 x_2 gl gf g_0 g_1 g_2; have HF2 := Lib.hid (HF1.out.up hb2); have HG2 := Lib.hid (HG1.out.up hb2); have xl := HF2.out.lt; have xf := HF2.out.frozen; have x_0 := (HF2.out.box).2 0 _ rfl; have x_1 := (HF2.out.box).2 1 _ rfl; have x_2 := (HF2.out.box).2 2 _ rfl; have gl := HG2.out.lt; have gf := HG2.out.frozen; have g_0 := (HG2.out.box).2 0 _ rfl; have g_1 := (HG2.out.box).2 1 _ rfl; have g_2 := (HG2.out.box).2 2 _ rfl))
    refine bodyPost_ret (v := .tuple #[.agg #[.int .i64 0, .int .i64 0, .slice none 0 0], .slice none 0 0, .int .i64 1]) (by simp [results, Try.results10, go_sem, g_0, g_1, g_2]) rfl ⟨rfl, ?_⟩
    (repeat (first | (with_reducible exact Below.refl _ _) | (with_reducible assumption) | (with_reducible apply bel_alloc) | (with_reducible apply bel_drew) | (with_reducible apply bel_drewN) | (with_reducible refine bel_trans ?_ (by with_reducible assumption)) | (with_reducible refine bel_trans ?_ (HF.out _)) | ((with_reducible refine bel_set3 ?_ ?_); rotate_left; omega)))
  case true =>
  cases yk
  case false =>
    go_wp2_with (first | (go_at_call 25; refine (fetch_May id nodes rows A n c _ _ (HL.out.up hb0) HM.out).mono ?_; rintro e w1 ⟨rfl, hb1⟩; have hb01 := bel_trans hb0 hb1; clear xl xf x_0 x_1 x_2 gl gf g_0 g_1 g_2; have HF1 := Lib.hid (HF.out.up hb1); have HG1 := Lib.hid (HG.out.up hb1); have xl := HF1.out.lt; have xf := HF1.out.frozen; have x_0 := (HF1.out.box).2 0 _ rfl; have x_1 := (HF1.out.box).2 1 _ rfl; have x_2 := (HF1.out.box).2 2 _ rfl; have gl := HG1.out.lt; have gf := HG1.out.frozen; have g_0 := (HG1.out.box).2 0 _ rfl; have g_1 := (HG1.out.box).2 1 _ rfl; have g_2 := (HG1.out.box).2 2 _ rfl) | (go_at_call 26; refine (fetch_kind _ _ _ HK.out).mono ?_; rintro e w' ⟨rfl, rfl⟩) | (go_at_call 27; refine (slices_Contains_D lA ln lc L _ _ (HLL.out.up hb01) HD.out).mono ?_; rintro e w2 ⟨rfl, hb2⟩; have hb02 := bel_trans hb01 hb2; clear xl xf x_0 x_1 x_2 gl gf g_0 g_1 g_2; have HF2 := Lib.hid (HF1.out.up hb2); have HG2 := Lib.hid (HG1.out.up hb2); have xl := HF2.out.lt; have xf := HF2.out.frozen; have x_0 := (HF2.out.box).2 0 _ rfl; have x_1 := (HF2.out.box).2 1 _ rfl; have x_2 := (HF2.out.box).2 2 _ rfl; have gl := HG2.out.lt; have gf := HG2.out.frozen; have g_0 := (HG2.out.box).2 0 _ rfl; have g_1 := (HG2.out.box).2 1 _ rfl; have g_2 := (HG2.out.box).2 2 _ rfl))
    refine bodyPost_ret (v := .tuple #[.agg #[.int .i64 0, .int .i64 0, .slice none 0 0], .slice none 0 0, .int .i64 1]) (by simp [results, Try.results10, go_sem, g_0, g_1, g_2]) rfl ⟨rfl, ?_⟩
    (repeat (first | (with_reducible exact Below.refl _ _) | (with_reducible assumption) | (with_reducible apply bel_alloc) | (with_reducible apply bel_drew) | (with_reducible apply bel_drewN) | (with_reducible refine bel_trans ?_ (by with_reducible assumption)) | (with_reducible refine bel_trans ?_ (HF.out _)) | ((with_reducible refine bel_set3 ?_ ?_); rotate_left; omega)))
  case true =>
  cases yd
  case false =>
    go_wp2_with (first | (go_at_call 25; refine (fetch_May id nodes rows A n c _ _ (HL.out.up hb0) HM.out).mono ?_; rintro e w1 ⟨rfl, hb1⟩; have hb01 := bel_trans hb0 hb1; clear xl xf x_0 x_1 x_2 gl gf g_0 g_1 g_2; have HF1 := Lib.hid (HF.out.up hb1); have HG1 := Lib.hid (HG.out.up hb1); have xl := HF1.out.lt; have xf := HF1.out.frozen; have x_0 := (HF1.out.box).2 0 _ rfl; have x_1 := (HF1.out.box).2 1 _ rfl; have x_2 := (HF1.out.box).2 2 _ rfl; have gl := HG1.out.lt; have gf := HG1.out.frozen; have g_0 := (HG1.out.box).2 0 _ rfl; have g_1 := (HG1.out.box).2 1 _ rfl; have g_2 := (HG1.out.box).2 2 _ rfl) | (go_at_call 26; refine (fetch_kind _ _ _ HK.out).mono ?_; rintro e w' ⟨rfl, rfl⟩) | (go_at_call 27; refine (slices_Contains_D lA ln lc L _ _ (HLL.out.up hb01) HD.out).mono ?_; rintro e w2 ⟨rfl, hb2⟩; have hb02 := bel_trans hb01 hb2; clear xl xf x_0 x_1 x_2 gl gf g_0 g_1 g_2; have HF2 := Lib.hid (HF1.out.up hb2); have HG2 := Lib.hid (HG1.out.up hb2); have xl := HF2.out.lt; have xf := HF2.out.frozen; have x_0 := (HF2.out.box).2 0 _ rfl; have x_1 := (HF2.out.box).2 1 _ rfl; have x_2 := (HF2.out.box).2 2 _ rfl; have gl := HG2.out.lt; have gf := HG2.out.frozen; have g_0 := (HG2.out.box).2 0 _ rfl; have g_1 := (HG2.out.box).2 1 _ rfl; have g_2 := (HG2.out.box).2 2 _ rfl))
    refine bodyPost_ret (v := .tuple #[.agg #[.int .i64 0, .int .i64 0, .slice none 0 0], .slice none 0 0, .int .i64 1]) (by simp [results, Try.results10, go_sem, g_0, g_1, g_2]) rfl ⟨rfl, ?_⟩
    (repeat (first | (with_reducible exact Below.refl _ _) | (with_reducible assumption) | (with_reducible apply bel_alloc) | (with_reducible apply bel_drew) | (with_reducible apply bel_drewN) | (with_reducible refine bel_trans ?_ (by with_reducible assumption)) | (with_reducible refine bel_trans ?_ (HF.out _)) | ((with_reducible refine bel_set3 ?_ ?_); rotate_left; omega)))
  case true => exact absurd ⟨rfl, rfl, rfl⟩ HBAD.out
end Go.Proofs.Ytnngeaibdnnpoaa
namespace Go.Proofs.Ytnngeaibdnnpoaa
open Go.RowKit
set_option linter.unusedSimpArgs false
set_option linter.unusedVariables false

set_option maxRecDepth 100000 in
set_option maxHeartbeats 8000000 in
theorem ref21_asks (id nodes : Int) (fA : Option Addr) (fn fc : Nat) (A : Option Addr) (n c : Nat) (rows : List FRowD) (w : World) (hl : RowsR w A n rows) (hn : n ≤ 64) (h1 : 1 ≤ id) (h2 : id ≤ nodes) (h4 : nodes ≤ 16) (hr : ∀ j, j < n → 0 ≤ (qth rows j).tr ∧ (qth rows j).tr ≤ 1099511627776) :
    Calls Try.prog 77 #[.agg #[.int .i64 id, .int .i64 nodes, .slice fA fn fc], .slice A n c] w fun e w' => ∃ v, e = .returned v ∧ OwnMs w' (w.heap.size + 1) v (fL id nodes rows) ∧ Below w.heap.size w w' := by
  have HL := Lib.hid hl
  have HR := Lib.hid hr
  have HN := Lib.hid hl.1
  clear hl hr
  go_enter Try.func77, Try.ntmps77
  go_wp2_with fail
  have hb0 : Below w.heap.size w (w.alloc (.cells #[.int .i64 id, .int .i64 nodes, .slice fA fn fc] 24)) := bel_alloc (Below.refl _ _)
  have HB0 := Lib.hid (BoxR.new w [.int .i64 id, .int .i64 nodes, .slice fA fn fc] 24)
  go_loopw [5, 6] (fun s5 tx wr => ∃ t : Nat, (t : Int) ≤ nodes ∧ tx = .int .i64 ((t : Int) + 1) ∧ Hid (nodes = 1 → t = 0) ∧ Hid (OwnMs wr (w.heap.size + 1) s5 (fN id nodes rows (2 * t))) ∧ Hid (BoxR wr w.heap.size [.int .i64 id, .int .i64 nodes, .slice fA fn fc]) ∧ Below w.heap.size w wr) (fun _ tx _ => 20 - (intOf tx).toNat)
  case atStart => exact ⟨0, by omega, rfl, Lib.hid (fun _ => rfl), Lib.hid (OwnMs.nil _ _), HB0, hb0⟩
  case round =>
    clear HB0 hb0
    obtain ⟨t, ht, rfl, HT1, HO, HBX, hbw⟩ := hrel
    (obtain ⟨wt, hwt⟩ : ∃ x, x = wr := ⟨_, rfl⟩); subst hwt
    have xl := HBX.out.1
    have x_0 := (HBX.out).2 0 _ rfl; have x_1 := (HBX.out).2 1 _ rfl; have x_2 := (HBX.out).2 2 _ rfl
    by_cases hn2 : 2 ≤ nodes
    case neg =>
      have q2 : decide (1 < nodes) = false := by simp; omega
      have q1 : decide ((t : Int) + 1 ≤ nodes) = true := by have := HT1.out (by omega); simp; omega
      go_wp2_with fail
      go_ret
      exact ⟨_, rfl, by unfold fL; rw [if_pos (by omega)]; have h9 := HO.out; rw [HT1.out (by omega)] at h9; exact h9, hbw⟩
    case pos =>
    have q2 : decide (1 < nodes) = true := by simp; omega
    by_cases htn : (t : Int) < nodes
    case neg =>
      have q1 : decide ((t : Int) + 1 ≤ nodes) = false := by simp; omega
      go_wp2_with fail
      go_ret
      exact ⟨_, rfl, by unfold fL; rw [if_neg (by omega), show nodes.toNat = t by omega]; exact HO.out, hbw⟩
    case pos =>
    have q1 : decide ((t : Int) + 1 ≤ nodes) = true := by simp; omega
    go_wp2_with fail
    clear q1 q2 xl x_0 x_1 x_2
    go_loopw [5, 7] (fun s5 kx wr => ∃ q : Nat, q ≤ 2 ∧ kx = .int .i64 (7 + (q : Int)) ∧ Hid (OwnMs wr (w.heap.size + 1) s5 (fN id nodes rows (2 * t + q))) ∧ Hid (BoxR wr w.heap.size [.int .i64 id, .int .i64 nodes, .slice fA fn fc]) ∧ Below w.heap.size w wr) (fun _ kx _ => 9 - (intOf kx).toNat)
    case atStart => exact ⟨0, by omega, rfl, HO, HBX, hbw⟩
    case round =>
      clear HO HBX hbw
      obtain ⟨q, hq, rfl, HO, HBX, hbw⟩ := hrel
      (obtain ⟨ws, hws⟩ : ∃ x, x = wr := ⟨_, rfl⟩); subst hws
      by_cases hq2 : q < 2
      case neg =>
        obtain rfl : q = 2 := by omega
        have HNX : Hid (fN id nodes rows (2 * (t + 1)) = fN id nodes rows (2 * t + 2)) := Lib.hid rfl
        go_wp2_with fail
        (first | (go_round; (case rel => exact ⟨t + 1, by omega, by go_num, Lib.hid (fun h => absurd h (by omega)), HO, HBX, hbw⟩); (case measure => (simp [intOf] <;> omega))) | (go_roundw; (case rel => exact ⟨t + 1, by omega, by go_num, Lib.hid (fun h => absurd h (by omega)), HO, HBX, hbw⟩); (case measure => (simp [intOf] <;> omega))) | (refine ⟨?_, by simp [intOf] <;> omega⟩; (repeat apply Exists.intro); refine ⟨?rel, ?fr⟩; (case fr => ((repeat' apply And.intro) <;> rfl)); (case rel => exact ⟨t + 1, by omega, by go_num, Lib.hid (fun h => absurd h (by omega)), HO, HBX, hbw⟩)))
      case pos =>
      obtain ⟨sz, hsz⟩ : ∃ s, 2 * t + q = s := ⟨_, rfl⟩
      obtain ⟨tz, htz⟩ : ∃ z, (t : Int) + 1 = z := ⟨_, rfl⟩
      obtain ⟨kz, hkz⟩ : ∃ z, 7 + (q : Int) = z := ⟨_, rfl⟩
      rw [hsz] at HO
      have HT : Hid (((sz / 2 : Nat) : Int) + 1 = tz ∧ 7 + ((sz % 2 : Nat) : Int) = kz ∧ 2 * t + (q + 1) = sz + 1) := Lib.hid ⟨by omega, by omega, by omega⟩
      have HKZ := Lib.hid (And.intro htz hkz)
      have hk8 : decide (kz ≤ 8) = true := by simp; omega
      have hkz7 : 7 ≤ kz := by omega
      have hkz8 : kz ≤ 8 := by omega
      have hs32 : sz < 32 := by omega
      rw [htz, hkz]
      have xl := HBX.out.1
      have x_0 := (HBX.out).2 0 _ rfl; have x_1 := (HBX.out).2 1 _ rfl; have x_2 := (HBX.out).2 2 _ rfl
      clear htz hkz hsz
      go_wp2_with fail
      clear hk8
      go_loopw [8, 9] (fun s8 jx wr => ∃ j : Nat, j ≤ n ∧ jx = .int .i64 j ∧ Hid (OwnI wr ws.heap.size s8 (dsel id nodes kz tz (rows.take j))) ∧ Below ws.heap.size ws wr) (fun _ jx _ => n - (intOf jx).toNat)
      case atStart => exact ⟨0, Nat.zero_le _, rfl, Lib.hid (by simpa [dsel] using OwnI.nil ws ws.heap.size), Below.refl _ _⟩
      case round =>
        clear xl x_0 x_1 x_2
        obtain ⟨j, hj, rfl, HP, hb⟩ := hrel
        (obtain ⟨wj, hwj⟩ : ∃ x, x = wr := ⟨_, rfl⟩); subst hwj
        have hbj := bel_trans hbw hb
        have hX := HBX.out.up hb
        have xl := hX.1
        have x_0 := (hX).2 0 _ rfl; have x_1 := (hX).2 1 _ rfl; have x_2 := (hX).2 2 _ rfl
        clear hX
        by_cases hlt : j < n
        · skip
          obtain ⟨b, off, rfl, hbl, hc⟩ := (HL.out.up hbj).at (by omega)
          obtain ⟨c0, c1, c2, c3⟩ := hc j hlt
          clear hc
          have hrt := HR.out j hlt
          obtain ⟨rk, hrk⟩ : ∃ z, (qth rows j).ki = z := ⟨_, rfl⟩
          obtain ⟨rd, hrd⟩ : ∃ z, (qth rows j).di = z := ⟨_, rfl⟩
          obtain ⟨rt, hrt2⟩ : ∃ z, (qth rows j).tr = z := ⟨_, rfl⟩
          rw [hrk] at c0
          rw [hrd] at c1
          rw [hrt2] at c3 hrt
          have HRT := Lib.hid hrt
          have hsn := dsel_snoc id nodes kz tz rows j (by rw [HN.out]; exact hlt)
          rw [hrk, hrd, hrt2] at hsn
          have HSN := Lib.hid hsn
          clear hsn hrk hrd hrt2 hrt
          obtain ⟨y, hy⟩ : ∃ z, peerI id nodes rt = z := ⟨_, rfl⟩
          have HY := Lib.hid hy
          clear hy
          by_cases e1 : rk = kz
          · have d1 : (rk == kz) = true := by simp [e1]
            have E1 := Lib.hid e1
            clear e1
            by_cases e2 : y = tz
            · have d2 : (y == tz) = true := by simp [e2]
              have E2 := Lib.hid e2
              clear e2
              go_wp2_with fail
              refine wp_region_fam (by kernel_rfl) (by kernel_rfl) (fun ι F hne hF hcl => ?_)
              have hcF0 := fun n o => (bcell (hF n)).1 (b) o (by first | (simp; done) | (simp; omega) | omega)
              have hcF1 := fun n o => (bcell (hF n)).1 (w.heap.size) o (by first | (simp; done) | (simp; omega) | omega)
              have HF := Lib.hid hF; clear hF
              have HC := Lib.hid hcl; clear hcl
              repeat (any_goals (first
               | go_big_quiet_step (first | (go_at_call 91; exact Calls.fam HC.out (ref21_peer id nodes rt fA fn fc y _ h1 h2 hn2 h4 HRT.out.1 HRT.out.2 HY.out)))
               | (refine wpQuiet_guard _ _ _ rfl rfl ?_; (fail_if_success (intro b' hb; have h2 := hb.symm; have : b' = true := h2.trans (by with_reducible rfl))); (fail_if_success (intro b' hb; have h2 := hb.symm; have : b' = false := h2.trans (by with_reducible rfl))); intro b' hb; simp only [hb]; cases b' <;> (try simp only [Bool.not_eq_true', Bool.not_eq_false', decide_eq_true_eq, decide_eq_false_iff_not, Int.not_lt, Int.not_le, Bool.and_eq_true, Bool.or_eq_true, Bool.or_eq_false_iff, beq_iff_eq, beq_eq_false_iff_ne, Int.natCast_pos] at hb))))
              all_goals (refine wpQuiet_nil ?_; intro nq)
              all_goals (try (exfalso; omega))
              have hFwf := HF.out nq
              clear HF HC hne
              generalize F nq = wf at *
              have c1f := (bcell hFwf).1 b (off + j * 4 + 1) hbl
              rw [c1] at c1f
              have hblf := Nat.lt_of_lt_of_le hbl hFwf.size
              go_wp2_with (at_builtin; refine wpList_app1 rfl (.tmp 50) (.tmp 56) rfl ws.heap.size _ _ rfl (HP.out.up (bel_trans hFwf (bel_alloc (Below.refl _ _)))) _ rd rfl (cell0_alloc _ _ _) (by have h9 := dsel_len id nodes kz tz (rows.take j); have h8 := List.length_take_le j rows; omega) (le_alloc (Nat.le_trans hb.size hFwf.size)) ?_; intro v1 w1 hown1 hg1 hb1 hat1)
              (first | (go_round; (case rel => exact ⟨j + 1, by omega, by go_num, Lib.hid (by rw [HSN.out, if_pos ⟨E1.out, by rw [HY.out]; exact E2.out⟩]; exact hown1), Below.trans (bel_trans hb (bel_trans hFwf (bel_alloc (Below.refl _ _)))) hb1⟩); (case measure => (simp [intOf] <;> omega))) | (go_roundw; (case rel => exact ⟨j + 1, by omega, by go_num, Lib.hid (by rw [HSN.out, if_pos ⟨E1.out, by rw [HY.out]; exact E2.out⟩]; exact hown1), Below.trans (bel_trans hb (bel_trans hFwf (bel_alloc (Below.refl _ _)))) hb1⟩); (case measure => (simp [intOf] <;> omega))) | (refine ⟨?_, by simp [intOf] <;> omega⟩; (repeat apply Exists.intro); refine ⟨?rel, ?fr⟩; (case fr => ((repeat' apply And.intro) <;> rfl)); (case rel => exact ⟨j + 1, by omega, by go_num, Lib.hid (by rw [HSN.out, if_pos ⟨E1.out, by rw [HY.out]; exact E2.out⟩]; exact hown1), Below.trans (bel_trans hb (bel_trans hFwf (bel_alloc (Below.refl _ _)))) hb1⟩)))
            · have d2 : (y == tz) = false := by simp [e2]
              have E2 := Lib.hid e2
              clear e2
              go_wp2_with fail
              refine wp_region_fam (by kernel_rfl) (by kernel_rfl) (fun ι F hne hF hcl => ?_)
              have hcF0 := fun n o => (bcell (hF n)).1 (b) o (by first | (simp; done) | (simp; omega) | omega)
              have hcF1 := fun n o => (bcell (hF n)).1 (w.heap.size) o (by first | (simp; done) | (simp; omega) | omega)
              have HF := Lib.hid hF; clear hF
              have HC := Lib.hid hcl; clear hcl
              repeat (any_goals (first
               | go_big_quiet_step (first | (go_at_call 91; exact Calls.fam HC.out (ref21_peer id nodes rt fA fn fc y _ h1 h2 hn2 h4 HRT.out.1 HRT.out.2 HY.out)))
               | (refine wpQuiet_guard _ _ _ rfl rfl ?_; (fail_if_success (intro b' hb; have h2 := hb.symm; have : b' = true := h2.trans (by with_reducible rfl))); (fail_if_success (intro b' hb; have h2 := hb.symm; have : b' = false := h2.trans (by with_reducible rfl))); intro b' hb; simp only [hb]; cases b' <;> (try simp only [Bool.not_eq_true', Bool.not_eq_false', decide_eq_true_eq, decide_eq_false_iff_not, Int.not_lt, Int.not_le, Bool.and_eq_true, Bool.or_eq_true, Bool.or_eq_false_iff, beq_iff_eq, beq_eq_false_iff_ne, Int.natCast_pos] at hb))))
              all_goals (refine wpQuiet_nil ?_; intro nq)
              all_goals (try (exfalso; omega))
              have hFwf := HF.out nq
              clear HF HC hne
              generalize F nq = wf at *
              have c1f := (bcell hFwf).1 b (off + j * 4 + 1) hbl
              rw [c1] at c1f
              have hblf := Nat.lt_of_lt_of_le hbl hFwf.size
              go_wp2_with fail
              (first | (go_round; (case rel => exact ⟨j + 1, by omega, by go_num, Lib.hid (by rw [HSN.out, if_neg (fun h => E2.out (by rw [← HY.out]; exact h.2)), List.append_nil]; exact HP.out.up hFwf), bel_trans hb hFwf⟩); (case measure => (simp [intOf] <;> omega))) | (go_roundw; (case rel => exact ⟨j + 1, by omega, by go_num, Lib.hid (by rw [HSN.out, if_neg (fun h => E2.out (by rw [← HY.out]; exact h.2)), List.append_nil]; exact HP.out.up hFwf), bel_trans hb hFwf⟩); (case measure => (simp [intOf] <;> omega))) | (refine ⟨?_, by simp [intOf] <;> omega⟩; (repeat apply Exists.intro); refine ⟨?rel, ?fr⟩; (case fr => ((repeat' apply And.intro) <;> rfl)); (case rel => exact ⟨j + 1, by omega, by go_num, Lib.hid (by rw [HSN.out, if_neg (fun h => E2.out (by rw [← HY.out]; exact h.2)), List.append_nil]; exact HP.out.up hFwf), bel_trans hb hFwf⟩)))
          · have d1 : (rk == kz) = false := by simp [e1]
            have E1 := Lib.hid e1
            clear e1
            go_wp2_with fail
            refine wp_region_fam (by kernel_rfl) (by kernel_rfl) (fun ι F hne hF hcl => ?_)
            have hcF0 := fun n o => (bcell (hF n)).1 (b) o (by first | (simp; done) | (simp; omega) | omega)
            have hcF1 := fun n o => (bcell (hF n)).1 (w.heap.size) o (by first | (simp; done) | (simp; omega) | omega)
            have HF := Lib.hid hF; clear hF
            have HC := Lib.hid hcl; clear hcl
            repeat (any_goals (first
             | go_big_quiet_step (first | (go_at_call 91; exact Calls.fam HC.out (ref21_peer id nodes rt fA fn fc y _ h1 h2 hn2 h4 HRT.out.1 HRT.out.2 HY.out)))
             | (refine wpQuiet_guard _ _ _ rfl rfl ?_; (fail_if_success (intro b' hb; have h2 := hb.symm; have : b' = true := h2.trans (by with_reducible rfl))); (fail_if_success (intro b' hb; have h2 := hb.symm; have : b' = false := h2.trans (by with_reducible rfl))); intro b' hb; simp only [hb]; cases b' <;> (try simp only [Bool.not_eq_true', Bool.not_eq_false', decide_eq_true_eq, decide_eq_false_iff_not, Int.not_lt, Int.not_le, Bool.and_eq_true, Bool.or_eq_true, Bool.or_eq_false_iff, beq_iff_eq, beq_eq_false_iff_ne, Int.natCast_pos] at hb))))
            all_goals (refine wpQuiet_nil ?_; intro nq)
            all_goals (try (exfalso; omega))
            have hFwf := HF.out nq
            clear HF HC hne
            generalize F nq = wf at *
            have c1f := (bcell hFwf).1 b (off + j * 4 + 1) hbl
            rw [c1] at c1f
            have hblf := Nat.lt_of_lt_of_le hbl hFwf.size
            go_wp2_with fail
            (first | (go_round; (case rel => exact ⟨j + 1, by omega, by go_num, Lib.hid (by rw [HSN.out, if_neg (fun h => E1.out h.1), List.append_nil]; exact HP.out.up hFwf), bel_trans hb hFwf⟩); (case measure => (simp [intOf] <;> omega))) | (go_roundw; (case rel => exact ⟨j + 1, by omega, by go_num, Lib.hid (by rw [HSN.out, if_neg (fun h => E1.out h.1), List.append_nil]; exact HP.out.up hFwf), bel_trans hb hFwf⟩); (case measure => (simp [intOf] <;> omega))) | (refine ⟨?_, by simp [intOf] <;> omega⟩; (repeat apply Exists.intro); refine ⟨?rel, ?fr⟩; (case fr => ((repeat' apply And.intro) <;> rfl)); (case rel => exact ⟨j + 1, by omega, by go_num, Lib.hid (by rw [HSN.out, if_neg (fun h => E1.out h.1), List.append_nil]; exact HP.out.up hFwf), bel_trans hb hFwf⟩)))
        · skip
          obtain rfl : n = j := by omega
          have hp := HP.out
          rw [List.take_of_length_le (by rw [HN.out]; exact Nat.le_refl _)] at hp
          have hDl := dsel_len id nodes kz tz rows
          rw [HN.out] at hDl
          obtain ⟨D, hD⟩ : ∃ D, dsel id nodes kz tz rows = D := ⟨_, rfl⟩
          rw [hD] at hp hDl
          obtain ⟨m, hm⟩ : ∃ m, D.length = m := ⟨_, rfl⟩
          have hFS : fS id nodes rows kz tz = chM kz id tz D ((m + 15) / 16) := by unfold fS; rw [hD, hm]
          have HFS := Lib.hid hFS
          rw [hm] at hDl
          clear hD hFS HP
          have hp2 := hp
          unfold OwnI at hp2
          rw [hm] at hp2
          obtain ⟨pA, pc, rfl, hrv, -, hpc, -⟩ := own_row hp2 (by omega)
          have HPD : Hid (wj.ownsRow 0 3 1 (.slice pA m pc) m (D.map (Value.int .i64))) := Lib.hid (own_mono hp2 (Nat.zero_le _))
          clear hp2
          obtain ⟨pA', pc', e9, hpi⟩ := nmI hp hm (by omega)
          injection e9 with e91 e92 e93
          subst e91
          clear e92 e93 hp hrv
          have HPI0 := Lib.hid hpi
          clear hpi
          have HM := Lib.hid hm
          clear hm
          obtain ⟨pb, po, hpA⟩ : ∃ pb po : Nat, 0 < m → pA = some ⟨pb, po, none⟩ := by
            by_cases hm0 : 0 < m
            · obtain ⟨b9, o9, e9, -⟩ := HPI0.out.2.2 hm0
              exact ⟨b9, o9, fun _ => e9⟩
            · exact ⟨0, 0, fun h => absurd h hm0⟩
          have HPA := Lib.hid hpA
          clear hpA
          obtain ⟨K9, hK9⟩ : ∃ K, (m + 15) / 16 = K := ⟨_, rfl⟩
          have hK5 : K9 ≤ 4 := by omega
          have HK9 := Lib.hid hK9
          clear hK9
          have hm64 : m ≤ 64 := Nat.le_trans hDl hn
          clear hDl
          go_wp2_with fail
          have HO9 := Lib.hid (HO.out.up hb)
          have HXB9 := Lib.hid (HBX.out.up hb)
          clear HO HBX hb xl x_0 x_1 x_2 hbw
          go_loopw [5, 8] (fun s5 s8 wr => ∃ (j : Nat) (dA : Option Addr) (dc : Nat), j ≤ K9 ∧ s8 = .slice dA (m - j * 16) dc ∧ m - j * 16 ≤ dc ∧ Hid (j * 16 < m → dA = some ⟨pb, po + j * 16, none⟩) ∧ Hid (OwnMs wr (w.heap.size + 1) s5 (fN id nodes rows sz ++ chM kz id tz D j)) ∧ Hid (wr.ownsRow 0 3 1 (.slice pA m pc) m (D.map (Value.int .i64))) ∧ Hid (BoxR wr w.heap.size [.int .i64 id, .int .i64 nodes, .slice fA fn fc]) ∧ Below w.heap.size w wr) (fun _ s8 _ => match s8 with | .slice _ q _ => q | _ => 0)
          case atStart => exact ⟨0, pA, pc, Nat.zero_le _, by simp, by omega, Lib.hid (fun h => by rw [Nat.zero_mul, Nat.add_zero]; exact HPA.out (by omega)), Lib.hid (by simpa [chM] using HO9.out), HPD, HXB9, hbj⟩
          case round =>
            clear HO9 HPD HXB9 hbj
            obtain ⟨j, dA, dc, hj, rfl, hdc, HDA, HOM, HPD, HXB, hbwm⟩ := hrel
            (obtain ⟨wm, hwm⟩ : ∃ x, x = wr := ⟨_, rfl⟩); subst hwm
            have xl := HXB.out.1
            have x_0 := (HXB.out).2 0 _ rfl; have x_1 := (HXB.out).2 1 _ rfl; have x_2 := (HXB.out).2 2 _ rfl
            obtain ⟨r, hr⟩ : ∃ r, m - j * 16 = r := ⟨_, rfl⟩
            rw [hr] at hdc ⊢
            have HRR := Lib.hid hr
            clear hr
            by_cases hlt : 0 < r
            · skip
              have hjm : j * 16 < m := by have := HRR.out; omega
              have hpe := HPA.out (by omega)
              subst hpe
              have hde := HDA.out hjm
              subst hde
              have hrI : decide ((0 : Int) < (r : Int)) = true := by simp; omega
              have hrN : decide (0 < r) = true := by simp; omega
              go_upto_region 15 with fail
              go_cut [10] from 61 to 63 (fun s10 wx => ∃ e : Nat, Hid (e = min 16 r) ∧ s10 = .int .i64 e ∧ wm = wx)
              case first =>
                go_wp2_with fail
                all_goals go_meet
                all_goals first | exact ⟨r, Lib.hid (by omega), rfl, rfl⟩ | exact ⟨16, Lib.hid (by omega), rfl, rfl⟩
              case rest =>
              obtain ⟨e16, HE, hq1, hq2⟩ := hcut
              subst hq1
              subst hq2
              have he17 : e16 ≤ 16 := by have := HE.out; omega
              have her : e16 ≤ r := by have := HE.out; omega
              have he0 : 0 < e16 := by have := HE.out; omega
              have hedc : e16 ≤ dc := by omega
              have HPI : Hid (IntsR wm (some ⟨pb, po + j * 16, none⟩) e16 ((D.drop (j * 16)).take 16)) := Lib.hid (by have h8 := IntsR.piece (w := wm) (b := pb) (off := po) (m := m) (d := D) (i := j) (by obtain ⟨A', c', e', h'⟩ := nmI (show OwnI wm 0 (.slice (some ⟨pb, po, none⟩) m pc) D from by have h9 := HPD.out; rw [← HM.out] at h9 ⊢; exact h9) HM.out (by omega); injection e' with e1 e2 e3; subst e1; exact h') hjm; rw [HRR.out, ← HE.out] at h8; exact h8)
              obtain ⟨ps, hO⟩ := HOM.out
              have hwm1 : w.heap.size + 1 ≤ wm.heap.size := xl
              have HLN : Hid ((fN id nodes rows sz ++ chM kz id tz D j).length ≤ 1000) := Lib.hid (by have h9 := fN_len id nodes rows (by rw [HN.out]; exact hn) sz; rw [List.length_append]; simp [chM]; omega)
              have hS10 : ∀ {X Y : World}, Below wm.heap.size wm X → Below (w.heap.size + 1) X Y → Y.cell? ⟨w.heap.size, 0, none⟩ = some (.int .i64 id) := fun hX hY => (hY.cell (p := ⟨w.heap.size, 0, none⟩) (Nat.lt_succ_self _)).trans ((HXB.out.up hX).2 0 _ rfl)
              have BX10 : ∀ {X Y : World}, BoxR X w.heap.size [.int .i64 id, .int .i64 nodes, .slice fA fn fc] → Below (w.heap.size + 1) X Y → BoxR Y w.heap.size [.int .i64 id, .int .i64 nodes, .slice fA fn fc] := fun hX hY => ⟨Nat.lt_of_lt_of_le hX.1 hY.size, fun r u hu => (hY.cell (p := ⟨w.heap.size, r, none⟩) (Nat.lt_succ_self _)).trans (hX.2 r u hu)⟩
              clear xl x_0 x_1 x_2
              go_upto_region 16 with fail
              obtain ⟨S, hSd⟩ : ∃ S : World → Prop, S = fun Q => Q.cell? ⟨w.heap.size, 0, none⟩ = some (.int .i64 id) := ⟨_, rfl⟩
              have hS1 : ∀ Q, S Q → Q.cell? ⟨w.heap.size, 0, none⟩ = some (.int .i64 id) := fun Q h => by rw [hSd] at h; exact h
              have hS2 : ∀ Q, Q.cell? ⟨w.heap.size, 0, none⟩ = some (.int .i64 id) → S Q := fun Q h => by rw [hSd]; exact h
              have hS : ∀ Q, Below wm.heap.size wm Q → S Q := fun Q hQ => by rw [hSd]; exact (HXB.out.up hQ).2 0 _ rfl
              clear hSd
              go_cut [5] from 64 to 75 (fun s5 wx => Hid (OwnMs wx (w.heap.size + 1) s5 (fN id nodes rows sz ++ chM kz id tz D (j + 1))) ∧ Hid (wx.ownsRow 0 3 1 (.slice (some ⟨pb, po, none⟩) m pc) m (D.map (Value.int .i64))) ∧ Hid (BoxR wx w.heap.size [.int .i64 id, .int .i64 nodes, .slice fA fn fc]) ∧ Below w.heap.size w wx)
              case first =>
                refine wp_region_held_drew (S := S) (by kernel_rfl) (hS _ (bel_drew (Below.refl _ _))) (fun hHeld => ?_)
                have hbd : Below wm.heap.size wm wm.drew := bel_drew (Below.refl _ _)
                generalize wm.drew = Z at *
                (refine wpAnyH_tk 0 (some 64) (v := ?_) rfl rfl ?_ ?_; rotate_left; (focus (intro wq hSw; clear hSw; go_simp; all_goals (with_reducible rfl))); simp only [Act.put, List.setIfInBounds_toArray, List.set_cons_zero, List.set_cons_succ])
                (refine wpAnyH_tk 1 (some 65) (v := ?_) rfl rfl ?_ ?_; rotate_left; (focus (intro wq hSw; clear hSw; go_simp; all_goals (with_reducible rfl))); simp only [Act.put, List.setIfInBounds_toArray, List.set_cons_zero, List.set_cons_succ])
                (refine wpAnyH_tk 2 (some 66) (v := ?_) rfl rfl ?_ ?_; rotate_left; (focus (intro wq hSw; clear hSw; go_simp; all_goals (with_reducible rfl))); simp only [Act.put, List.setIfInBounds_toArray, List.set_cons_zero, List.set_cons_succ])
                (refine wpAnyH_tk 3 (some 67) (v := ?_) rfl rfl ?_ ?_; rotate_left; (focus (intro wq hSw; have q1 := hS1 wq hSw; clear hSw; go_simp; all_goals (with_reducible rfl))); simp only [Act.put, List.setIfInBounds_toArray, List.set_cons_zero, List.set_cons_succ])
                (refine wpAnyH_tk 4 (some 68) (v := ?_) rfl rfl ?_ ?_; rotate_left; (focus (intro wq hSw; clear hSw; go_simp; all_goals (with_reducible rfl))); simp only [Act.put, List.setIfInBounds_toArray, List.set_cons_zero, List.set_cons_succ])
                (refine wpAnyH_tk 5 (some 69) (v := ?_) rfl rfl ?_ ?_; rotate_left; (focus (intro wq hSw; clear hSw; go_simp; all_goals (with_reducible rfl))); simp only [Act.put, List.setIfInBounds_toArray, List.set_cons_zero, List.set_cons_succ])
                (refine wpAnyH_tk 6 (some 70) (v := ?_) rfl rfl ?_ ?_; rotate_left; (focus (intro wq hSw; clear hSw; go_simp; all_goals (with_reducible rfl))); simp only [Act.put, List.setIfInBounds_toArray, List.set_cons_zero, List.set_cons_succ])
                (refine wpAnyH_tk 7 (some 71) (v := ?_) rfl rfl ?_ ?_; rotate_left; (focus (intro wq hSw; clear hSw; go_simp; all_goals (with_reducible rfl))); simp only [Act.put, List.setIfInBounds_toArray, List.set_cons_zero, List.set_cons_succ])
                refine wpAnyH_ready (rs := [8]) (by kernel_rfl) (by simp) ?_
                refine AllReadyH.cons (o := _) rfl (fun K hK => ?_) AllReadyH.nil
                go_simp
                (go_at_call 53; refine (ref0_CopyNumbers _ _ _ _ _ (HPI.out.up hbd) (by omega)).mono ?_; rintro e w7 ⟨v7, rfl, ho7, hb7⟩)
                obtain ⟨sl, hsl⟩ : ∃ sl : SlP, v7 = .slice sl.A sl.n sl.c := by (obtain ⟨A7, c7, e7, -⟩ := ho7.ints (by simp; omega); exact ⟨⟨A7, _, c7⟩, e7⟩)
                subst hsl
                have hbb := bel_trans hbd hb7
                have hsz7 := hbd.size
                refine hK.out _ _ (hS _ hbb) (fun hHeld => ?_)
                clear hK K
                (try simp only [Act.put, List.setIfInBounds_toArray, List.set_cons_zero, List.set_cons_succ])
                (refine wpAnyH_tk 9 (some 73) (v := ?_) rfl rfl ?_ ?_; rotate_left; (focus (intro wq hSw; clear hSw; go_simp; all_goals (with_reducible rfl))); simp only [Act.put, List.setIfInBounds_toArray, List.set_cons_zero, List.set_cons_succ])
                refine wpAnyH_ready (rs := [10]) (by kernel_rfl) (by simp) ?_
                refine AllReadyH.cons (o := _) rfl (fun K hK => ?_) AllReadyH.nil
                go_simp
                obtain ⟨g4, hg4⟩ : ∃ g, g = w7.heap.size := ⟨_, rfl⟩
                obtain ⟨ZB, hZB⟩ : ∃ Zr : World, Zr = w7.alloc (.cells #[.int .i64 kz, .int .i64 id, .int .i64 tz, .int .i64 0, .int .i64 0, .int .i64 0, .slice none 0 0, .int .i64 0, .int .i64 0, .slice none 0 0, .slice none 0 0, .int .i64 0, .int .i64 0, .slice none 0 0, .slice none 0 0, .int .i64 0, .slice none 0 0, .slice sl.A sl.n sl.c] 44) := ⟨_, rfl⟩
                rw [← hg4, ← hZB]
                have hza : Blk ZB g4 44 [.int .i64 kz, .int .i64 id, .int .i64 tz, .int .i64 0, .int .i64 0, .int .i64 0, .slice none 0 0, .int .i64 0, .int .i64 0, .slice none 0 0, .slice none 0 0, .int .i64 0, .int .i64 0, .slice none 0 0, .slice none 0 0, .int .i64 0, .slice none 0 0, .slice sl.A sl.n sl.c] := by rw [hZB, hg4]; exact Blk.new _ 44 [.int .i64 kz, .int .i64 id, .int .i64 tz, .int .i64 0, .int .i64 0, .int .i64 0, .slice none 0 0, .int .i64 0, .int .i64 0, .slice none 0 0, .slice none 0 0, .int .i64 0, .int .i64 0, .slice none 0 0, .slice none 0 0, .int .i64 0, .slice none 0 0, .slice sl.A sl.n sl.c]
                have hbz : Below w7.heap.size w7 ZB := by rw [hZB]; exact bel_alloc (Below.refl _ _)
                have hbbz := bel_trans hbb hbz
                clear hg4 hZB
                refine hK.out _ _ (hS _ hbbz) (fun hHeld => ?_)
                clear hK K
                (try simp only [Act.put, List.setIfInBounds_toArray, List.set_cons_zero, List.set_cons_succ])
                refine wpAnyH_ready (rs := [11]) (by kernel_rfl) (by simp) ?_
                refine AllReadyH.cons (o := _) rfl (fun K hK => ?_) AllReadyH.nil
                have hownZ := hO.up hbbz
                refine step_appM rfl (.tmp 64) (.tmp 74) rfl rfl (w.heap.size + 1) _ ps (fN id nodes rows sz ++ chM kz id tz D j) (by simp [Act.eval, Act.put]) hownZ g4 (fMk kz id tz ((D.drop (j * 16)).take 16)) (fMp sl) (by simp [Act.eval, Act.put]) hza.box (fOwn kz id tz ((ho7.up hbz).mono (by omega))) (by have h9 := HLN.out; omega) (Nat.le_trans hwm1 hbbz.size) ?_
                intro v10 w10 hown10 hg10 hb10
                show K (Act.put _ (some 75) _) _
                refine hK.out _ _ (hS2 _ (hS10 hbbz hb10)) (fun hHeld => ?_)
                clear hK K
                (try simp only [Act.put, List.setIfInBounds_toArray, List.set_cons_zero, List.set_cons_succ])
                (refine wpAnyH_tk 12 (some 5) (v := ?_) rfl rfl ?_ ?_; rotate_left; (focus (intro wq hSw; clear hSw; go_simp; all_goals (with_reducible rfl))); simp only [Act.put, List.setIfInBounds_toArray, List.set_cons_zero, List.set_cons_succ])
                refine wpAnyH_done (by kernel_rfl) ?_ _
                go_wp2_with fail
                go_meet
                have hOR := hownZ.1
                exact ⟨Lib.hid ⟨_, by rw [chM_succ, ← List.append_assoc]; exact hown10⟩, Lib.hid (own_farT (own_up HPD.out hbbz) hOR (by decide) hg10), Lib.hid (BX10 (HXB.out.up hbbz) hb10), Below.trans (bel_trans hbwm hbbz) (hb10.mono (Nat.le_succ _))⟩
              case rest =>
              obtain ⟨HOM2, HPD2, HXB2, hbw2⟩ := hcut
              obtain ⟨wy, hwy⟩ : ∃ x, x = wc := ⟨_, rfl⟩
              subst hwy
              clear hS hS1 hS2
              by_cases hdd : dc = e16
              · subst hdd
                go_wp2_with fail
                (first | (go_round; (case rel => exact ⟨j + 1, some ⟨pb, po + j * 16, none⟩, 0, by (have h8 := HK9.out); omega, (by rw [show m - (j + 1) * 16 = 0 by (have h8 := HRR.out); (have h7 := HE.out); omega]), by (have h8 := HRR.out); (have h7 := HE.out); omega, Lib.hid (fun h => absurd h (by (have h8 := HRR.out); (have h7 := HE.out); omega)), HOM2, HPD2, HXB2, hbw2⟩); (case measure => (simp [intOf] <;> omega))) | (go_roundw; (case rel => exact ⟨j + 1, some ⟨pb, po + j * 16, none⟩, 0, by (have h8 := HK9.out); omega, (by rw [show m - (j + 1) * 16 = 0 by (have h8 := HRR.out); (have h7 := HE.out); omega]), by (have h8 := HRR.out); (have h7 := HE.out); omega, Lib.hid (fun h => absurd h (by (have h8 := HRR.out); (have h7 := HE.out); omega)), HOM2, HPD2, HXB2, hbw2⟩); (case measure => (simp [intOf] <;> omega))) | (refine ⟨?_, by simp [intOf] <;> omega⟩; (repeat apply Exists.intro); refine ⟨?rel, ?fr⟩; (case fr => ((repeat' apply And.intro) <;> rfl)); (case rel => exact ⟨j + 1, some ⟨pb, po + j * 16, none⟩, 0, by (have h8 := HK9.out); omega, (by rw [show m - (j + 1) * 16 = 0 by (have h8 := HRR.out); (have h7 := HE.out); omega]), by (have h8 := HRR.out); (have h7 := HE.out); omega, Lib.hid (fun h => absurd h (by (have h8 := HRR.out); (have h7 := HE.out); omega)), HOM2, HPD2, HXB2, hbw2⟩)))
              · skip
                go_wp2_with fail
                (first | (go_round; (case rel => exact ⟨j + 1, some ⟨pb, po + j * 16 + e16, none⟩, dc - e16, by (have h8 := HK9.out); omega, (by rw [show m - (j + 1) * 16 = r - e16 by (have h8 := HRR.out); (have h7 := HE.out); omega]), by (have h8 := HRR.out); (have h7 := HE.out); omega, Lib.hid (fun h => by rw [show po + j * 16 + e16 = po + (j + 1) * 16 by (have h8 := HRR.out); (have h7 := HE.out); omega]), HOM2, HPD2, HXB2, hbw2⟩); (case measure => (simp [intOf] <;> omega))) | (go_roundw; (case rel => exact ⟨j + 1, some ⟨pb, po + j * 16 + e16, none⟩, dc - e16, by (have h8 := HK9.out); omega, (by rw [show m - (j + 1) * 16 = r - e16 by (have h8 := HRR.out); (have h7 := HE.out); omega]), by (have h8 := HRR.out); (have h7 := HE.out); omega, Lib.hid (fun h => by rw [show po + j * 16 + e16 = po + (j + 1) * 16 by (have h8 := HRR.out); (have h7 := HE.out); omega]), HOM2, HPD2, HXB2, hbw2⟩); (case measure => (simp [intOf] <;> omega))) | (refine ⟨?_, by simp [intOf] <;> omega⟩; (repeat apply Exists.intro); refine ⟨?rel, ?fr⟩; (case fr => ((repeat' apply And.intro) <;> rfl)); (case rel => exact ⟨j + 1, some ⟨pb, po + j * 16 + e16, none⟩, dc - e16, by (have h8 := HK9.out); omega, (by rw [show m - (j + 1) * 16 = r - e16 by (have h8 := HRR.out); (have h7 := HE.out); omega]), by (have h8 := HRR.out); (have h7 := HE.out); omega, Lib.hid (fun h => by rw [show po + j * 16 + e16 = po + (j + 1) * 16 by (have h8 := HRR.out); (have h7 := HE.out); omega]), HOM2, HPD2, HXB2, hbw2⟩)))
            · skip
              obtain rfl : r = 0 := by omega
              obtain rfl : K9 = j := by (have h8 := HRR.out); (have h7 := HK9.out); omega
              rw [← HK9.out] at HOM
              have HNX : Hid (OwnMs wm (w.heap.size + 1) _ (fN id nodes rows (2 * t + (q + 1)))) := Lib.hid (by rw [HT.out.2.2, fN, HT.out.1, HT.out.2.1, HFS.out]; exact HOM.out)
              go_wp2_with fail
              (first | (go_round; (case rel => exact ⟨q + 1, by omega, by rw [show kz + 1 = 7 + ((q + 1 : Nat) : Int) by (have h8 := HKZ.out); omega], HNX, HXB, hbwm⟩); (case measure => (simp [intOf] <;> omega))) | (go_roundw; (case rel => exact ⟨q + 1, by omega, by rw [show kz + 1 = 7 + ((q + 1 : Nat) : Int) by (have h8 := HKZ.out); omega], HNX, HXB, hbwm⟩); (case measure => (simp [intOf] <;> omega))) | (refine ⟨?_, by simp [intOf] <;> omega⟩; (repeat apply Exists.intro); refine ⟨?rel, ?fr⟩; (case fr => ((repeat' apply And.intro) <;> rfl)); (case rel => exact ⟨q + 1, by omega, by rw [show kz + 1 = 7 + ((q + 1 : Nat) : Int) by (have h8 := HKZ.out); omega], HNX, HXB, hbwm⟩)))
end Go.Proofs.Ytnngeaibdnnpoaa
namespace Go.Proofs.Ytnngeaibdnnpoaa
open Go.RowKit
set_option linter.unusedSimpArgs false
set_option linter.unusedVariables false

theorem own_ne_blk {w : World} {B g : Nat} {v : Value} {l : List FRowD} {t : TypeId} {cs : List Value} (h : OwnQ w B v l) (hb : Blk w g t cs) (hne : 55 ≠ t) : v.ownBlock ≠ some g := fun e => by
  rcases h.2 with ⟨e1, _⟩ | ⟨g', cap, cur, e1, _, hg, _⟩
  · rw [e1] at e; cases e
  · rw [e1] at e
    have e2 : g' = g := by simpa [Value.ownBlock] using e
    subst e2
    have h9 := hg.symm.trans hb
    injection h9 with h9
    injection h9 with _ h9 _
    exact hne h9
end Go.Proofs.Ytnngeaibdnnpoaa
namespace Go.Proofs.Ytnngeaibdnnpoaa
open Go.RowKit
set_option linter.unusedSimpArgs false
set_option linter.unusedVariables false

theorem ins_splitQ {k d : Int} {l : List FRowD} {p : Nat} (h : posQ k d l = p) : l.take p ++ [⟨k, d, 0, 0⟩] ++ l.drop p = insQ ⟨k, d, 0, 0⟩ l := by
  unfold insQ
  rw [show posQ (FRowD.mk k d 0 0).ki (FRowD.mk k d 0 0).di l = p from h]
  simp
theorem OwnQ.shape {w : World} {B n c : Nat} {A : Option Addr} {l : List FRowD} (h : OwnQ w B (.slice A n c) l) (hn : l.length = n) : (A = none ∧ n = 0 ∧ c = 0) ∨ ∃ g, A = some ⟨g, 0, none⟩ ∧ n ≤ c := by
  unfold OwnQ at h
  rw [hn] at h
  rcases own_shape h with ⟨e, h0⟩ | ⟨g, c9, e9, _, h8⟩
  · injection e with e1 e2 e3; exact .inl ⟨e1, h0, e3⟩
  · injection e9 with e1 e2 e3; exact .inr ⟨g, e1, by omega⟩
set_option maxRecDepth 100000 in
set_option maxHeartbeats 8000000 in
theorem ref21_Want (id nodes k : Int) (A : Option Addr) (n c : Nat) (rows : List FRowD) (lA : Option Addr) (ln lc : Nat) (L : List Int) (w : World) (hl : RowsR w A n rows) (hL : IntsR w lA ln L) (hM : mayF ⟨id, nodes, rows⟩ = true) (hln : ln ≤ 17592186044416) :
    Calls Try.prog 52 #[.agg #[.int .i64 id, .int .i64 nodes, .slice A n c], .int .i64 k, .slice lA ln lc] w fun e w' => ∃ vr vl, e = .returned (.tuple #[.agg #[.int .i64 id, .int .i64 nodes, vr], vl]) ∧ OwnQ w' (w.heap.size + 2) vr (wantQ k rows L).1 ∧ OwnMs w' (w.heap.size + 2) vl (fL id nodes (wantQ k rows L).2) ∧ Below w.heap.size w w' := by
  have hm := mayF_iff.1 hM
  have h1 : 1 ≤ id := hm.2.1
  have h2 : id ≤ nodes := hm.2.2.1
  have h4 : nodes ≤ 16 := (isS_bd hm.1).2
  have hn : n ≤ 64 := by rw [← hl.1]; exact hm.2.2.2.1
  have hsort : SortQ rows := GoodQ.sort hm.2.2.2.2
  have htr : ∀ x ∈ rows, numB x.tr 0 = true := fun x hx => by
    obtain ⟨i, hi, rfl⟩ := List.getElem_of_mem hx
    have h9 := (rowS_iff.1 (hm.2.2.2.2 i hi).1).2.2.2
    rwa [qth_at _ _ hi] at h9
  have HW : Hid (∀ M, WantI k (wantQ k rows M)) := Lib.hid (fun M => WantI.want hsort hm.2.2.2.1 htr M)
  have HL := Lib.hid hl
  have HN := Lib.hid hl.1
  have HLL := Lib.hid hL
  have HLN := Lib.hid hL.1
  obtain ⟨⟨R, Fq⟩, hRF⟩ : ∃ S, wantQ k rows L = S := ⟨_, rfl⟩
  have HRF := Lib.hid hRF
  have HWL : Hid (WantI k (R, Fq)) := Lib.hid (by rw [← hRF]; exact HW.out L)
  clear hl hL hM hm hsort htr hRF
  go_enter Try.func52, Try.ntmps52
  go_upto_region 1 with fail
  refine wp_two (fun W0 hW0 => ?_)
  have hb0 : Below w.heap.size w W0 := by rw [hW0]; (repeat (first | (with_reducible exact Below.refl _ _) | (with_reducible assumption) | (with_reducible apply bel_alloc) | (with_reducible apply bel_drew) | (with_reducible apply bel_drewN) | (with_reducible refine bel_trans ?_ (by with_reducible assumption)) | (with_reducible refine bel_trans ?_ (HF.out _)) | (with_reducible refine bel_set ?_ (by simp) _) | (with_reducible refine bel_set ?_ (by simp; omega) _) | (with_reducible refine bel_set ?_ (by omega) _)))
  have hs0 : W0.heap.size = w.heap.size + 2 := by rw [hW0]; simp
  have HF0 : Hid (Blk W0 w.heap.size 24 [.int .i64 id, .int .i64 nodes, .slice A n c] ∧ Blk W0 (w.heap.size + 1) 24 [.int .i64 0, .int .i64 0, .slice none 0 0]) := Lib.hid (by
    rw [hW0]
    have h1 : Blk (w.alloc (.cells #[.int .i64 id, .int .i64 nodes, .slice A n c] 24)) w.heap.size 24 [.int .i64 id, .int .i64 nodes, .slice A n c] := Blk.new _ 24 [.int .i64 id, .int .i64 nodes, .slice A n c]
    have h2 := h1.up (bel_alloc (Below.refl _ _) : Below _ _ ((w.alloc (.cells #[.int .i64 id, .int .i64 nodes, .slice A n c] 24)).alloc (.cells #[.int .i64 0, .int .i64 0, .slice none 0 0] 24)))
    have h3 := Blk.new (w.alloc (.cells #[.int .i64 id, .int .i64 nodes, .slice A n c] 24)) 24 [.int .i64 0, .int .i64 0, .slice none 0 0]
    exact ⟨h2, by simpa using h3⟩)
  clear hW0
  have HF := Lib.hid HF0.out.1
  have HG := Lib.hid HF0.out.2
  clear HF0
  have xl := HF.out.lt
  have xf := HF.out.frozen
  have x_0 := (HF.out.box).2 0 _ rfl; have x_1 := (HF.out.box).2 1 _ rfl; have x_2 := (HF.out.box).2 2 _ rfl
  have gl := HG.out.lt
  have gf := HG.out.frozen
  have g_0 := (HG.out.box).2 0 _ rfl; have g_1 := (HG.out.box).2 1 _ rfl; have g_2 := (HG.out.box).2 2 _ rfl
  obtain ⟨B, hB⟩ : ∃ B, w.heap.size + 2 = B := ⟨_, rfl⟩
  go_upto_region 2 with (go_at_call 21; refine (ref0_CopyFetch id nodes A n c rows _ (HL.out.up hb0) (by omega)).mono ?_; rintro e w1 ⟨v1, rfl, hown1, hb1⟩; obtain ⟨iA, ic, rfl, -⟩ := nmQ hown1 HN.out (by omega); clear xl xf x_0 x_1 x_2 gl gf g_0 g_1 g_2; have HF1 := Lib.hid (HF.out.up hb1); have HG1 := Lib.hid (HG.out.up hb1); have xl := HF1.out.lt; have xf := HF1.out.frozen; have x_0 := (HF1.out.box).2 0 _ rfl; have x_1 := (HF1.out.box).2 1 _ rfl; have x_2 := (HF1.out.box).2 2 _ rfl; have gl := HG1.out.lt; have gf := HG1.out.frozen; have g_0 := (HG1.out.box).2 0 _ rfl; have g_1 := (HG1.out.box).2 1 _ rfl; have g_2 := (HG1.out.box).2 2 _ rfl)
  have hB1 : B ≤ w1.heap.size := by have := hb1.size; omega
  have hwl : w.heap.size < B := by omega
  obtain ⟨gx, hgx⟩ : ∃ g, g = w1.heap.size := ⟨_, rfl⟩
  refine wp_two (fun W1 hW1 => ?_)
  have HX2 : Hid (Blk W1 gx 24 [.int .i64 id, .int .i64 nodes, .slice iA n ic]) := Lib.hid (by rw [hW1, hgx]; exact Blk.new w1 24 [.int .i64 id, .int .i64 nodes, .slice iA n ic])
  have hbn : Below w1.heap.size w1 W1 := by rw [hW1]; exact bel_alloc (Below.refl _ _)
  have HG2 := Lib.hid (HG1.out.up hbn)
  have HR2 : Hid (OwnQ W1 B (.slice iA n ic) rows) := Lib.hid ((hown1.mono (by omega)).up hbn)
  have hb2 : Below w.heap.size w W1 := bel_trans (bel_trans hb0 hb1) hbn
  have hB2 : B ≤ W1.heap.size := Nat.le_trans hB1 hbn.size
  have hBx : B ≤ gx := by omega
  rw [← hgx]
  clear hW1 xl xf x_0 x_1 x_2 gl gf g_0 g_1 g_2 hown1 hb1 hb0 hs0 hbn hgx
  go_wp2_with fail
  go_loopw [9, 10] (fun s9 jx wr => ∃ (j : Nat) (xA : Option Addr) (xn xc : Nat) (fA : Option Addr) (fn fc : Nat), j ≤ ln ∧ jx = .int .i64 j ∧ s9 = .slice fA fn fc ∧ Hid ((wantQ k rows (L.take j)).1.length = xn) ∧ Hid ((wantQ k rows (L.take j)).2.length = fn) ∧ Hid (OwnQ wr B (.slice fA fn fc) (wantQ k rows (L.take j)).2) ∧ Hid (OwnQ wr B (.slice xA xn xc) (wantQ k rows (L.take j)).1) ∧ Hid (Blk wr gx 24 [.int .i64 id, .int .i64 nodes, .slice xA xn xc]) ∧ Below B W1 wr) (fun _ jx _ => ln - (intOf jx).toNat)
  case atStart => exact ⟨0, iA, n, ic, none, 0, 0, Nat.zero_le _, rfl, rfl, HN, Lib.hid rfl, Lib.hid (OwnQ.nil _ _), HR2, HX2, Below.refl _ _⟩
  case round =>
    clear HX2 HR2
    obtain ⟨j, xA, xn, xc, fA, fn, fc, hj, rfl, rfl, HRN, HFN, HO9, HOX, HX, hbw⟩ := hrel
    (obtain ⟨wk, hwk⟩ : ∃ x, x = wr := ⟨_, rfl⟩); subst hwk
    have hbk : Below w.heap.size w wk := hb2.trans (hbw.mono (by omega))
    have hBk : B ≤ wk.heap.size := Nat.le_trans hB2 hbw.size
    by_cases hlt : j < ln
    · skip
      obtain ⟨lb, lo, rfl, hlb, hlx⟩ := HLL.out.2.2 (by omega)
      have l0 := hlx j hlt
      clear hlx
      obtain ⟨d, hd⟩ : ∃ d, nth L j = d := ⟨_, rfl⟩
      rw [hd] at l0
      have L0 := Lib.hid l0
      clear l0
      obtain ⟨⟨R, Fq⟩, hRF⟩ : ∃ S, wantQ k rows (L.take j) = S := ⟨_, rfl⟩
      have hst := wantQ_snoc k rows L j (by rw [HLN.out]; exact hlt)
      rw [hd, hRF] at hst
      have HST := Lib.hid hst
      have HWI : Hid (WantI k (R, Fq)) := Lib.hid (by rw [← hRF]; exact HW.out _)
      rw [hRF] at HRN HFN HO9 HOX
      have hrn : xn ≤ 64 := by rw [← HRN.out]; exact HWI.out.l1
      have hfn : fn ≤ xn := by rw [← HFN.out, ← HRN.out]; exact HWI.out.l2
      clear hst hd hRF
      obtain ⟨p, hp⟩ : ∃ p, posQ k d R = p := ⟨_, rfl⟩
      obtain ⟨y, hy⟩ : ∃ y, hereQ k d R = y := ⟨_, rfl⟩
      have hpn : p ≤ xn := by have h1 := (posQ_spec k d R).1; rw [hp, show R.length = xn from HRN.out] at h1; exact h1
      obtain ⟨q, hq⟩ : ∃ p, posQ k d Fq = p := ⟨_, rfl⟩
      obtain ⟨z, hz⟩ : ∃ y, hereQ k d Fq = y := ⟨_, rfl⟩
      have hqn : q ≤ fn := by have h1 := (posQ_spec k d Fq).1; rw [hq, show Fq.length = fn from HFN.out] at h1; exact h1
      have HP := Lib.hid hp
      have HY := Lib.hid hy
      have HQ := Lib.hid hq
      have HZ := Lib.hid hz
      clear hp hy hq hz
      have HLR : Hid (RowsR wk xA xn R) := Lib.hid (HOX.out.rowsR HRN.out (by omega))
      have l0k := (bcell hbk).1 lb (lo + j) hlb
      rw [L0.out] at l0k
      have lbk : lb < _ := Nat.lt_of_lt_of_le hlb hbk.size
      have xl := HX.out.lt
      have xf := HX.out.frozen
      have x_0 := (HX.out.box).2 0 _ rfl; have x_1 := (HX.out.box).2 1 _ rfl; have x_2 := (HX.out.box).2 2 _ rfl
      go_upto_region 6 with fail
      refine wp_region_fam (by kernel_rfl) (by kernel_rfl) (fun ι F hne hF hcl => ?_)
      have hcF0 := fun n o => (bcell (hF n)).1 (lb) o (by first | (simp; done) | (simp; omega) | omega)
      have hcF1 := fun n o => (bcell (hF n)).1 (gx) o (by first | (simp; done) | (simp; omega) | omega)
      have HF := Lib.hid hF; clear hF
      have HC := Lib.hid hcl; clear hcl
      repeat (any_goals (first
       | go_big_quiet_step (first | (go_at_call 76; exact Calls.fam HC.out (ref21_find xA xn xc R k d p y _ (HLR.out.up (HF.out _)) HP.out HY.out)))
       | (refine wpQuiet_guard _ _ _ rfl rfl ?_; (fail_if_success (intro b' hb; have h2 := hb.symm; have : b' = true := h2.trans (by with_reducible rfl))); (fail_if_success (intro b' hb; have h2 := hb.symm; have : b' = false := h2.trans (by with_reducible rfl))); intro b' hb; simp only [hb]; cases b' <;> (try simp only [Bool.not_eq_true', Bool.not_eq_false', decide_eq_true_eq, decide_eq_false_iff_not, Int.not_lt, Int.not_le, Bool.and_eq_true, Bool.or_eq_true, Bool.or_eq_false_iff, beq_iff_eq, beq_eq_false_iff_ne, Int.natCast_pos] at hb))))
      all_goals (refine wpQuiet_nil ?_; intro nq)
      all_goals (try (exfalso; omega))
      have hFwf := HF.out nq
      clear HF HC hne
      generalize F nq = wf at *
      clear xl xf x_0 x_1 x_2
      clear l0k lbk
      have hbF : Below w.heap.size w wf := bel_trans hbk hFwf
      have HXF := Lib.hid (HX.out.up hFwf)
      have HOF := Lib.hid (HOX.out.up hFwf)
      have HO9F := Lib.hid (HO9.out.up hFwf)
      have hbwF : Below B W1 wf := hbw.trans (hFwf.mono hBk)
      have hBF : B ≤ wf.heap.size := Nat.le_trans hBk hFwf.size
      clear HX HOX HO9 HLR hbw hFwf
      have l0f := (bcell hbF).1 lb (lo + j) hlb
      rw [L0.out] at l0f
      have lbf : lb < _ := Nat.lt_of_lt_of_le hlb hbF.size
      have xl := HXF.out.lt
      have xf := HXF.out.frozen
      have x_0 := (HXF.out.box).2 0 _ rfl; have x_1 := (HXF.out.box).2 1 _ rfl; have x_2 := (HXF.out.box).2 2 _ rfl
      cases y
      case true =>
        have HEQ : Hid (stepQ k (R, Fq) d = (R, Fq)) := Lib.hid (by unfold stepQ; rw [if_pos (.inl HY.out)])
        go_wp2_with fail
        (first | (go_round; (case rel => exact ⟨j + 1, xA, xn, xc, fA, fn, fc, by omega, by go_num, rfl, Lib.hid (by rw [HST.out, HEQ.out]; exact HRN.out), Lib.hid (by rw [HST.out, HEQ.out]; exact HFN.out), Lib.hid (by rw [HST.out, HEQ.out]; exact HO9F.out), Lib.hid (by rw [HST.out, HEQ.out]; exact HOF.out), HXF, hbwF⟩); (case measure => (simp [intOf] <;> omega))) | (go_roundw; (case rel => exact ⟨j + 1, xA, xn, xc, fA, fn, fc, by omega, by go_num, rfl, Lib.hid (by rw [HST.out, HEQ.out]; exact HRN.out), Lib.hid (by rw [HST.out, HEQ.out]; exact HFN.out), Lib.hid (by rw [HST.out, HEQ.out]; exact HO9F.out), Lib.hid (by rw [HST.out, HEQ.out]; exact HOF.out), HXF, hbwF⟩); (case measure => (simp [intOf] <;> omega))) | (refine ⟨?_, by simp [intOf] <;> omega⟩; (repeat apply Exists.intro); refine ⟨?rel, ?fr⟩; (case fr => ((repeat' apply And.intro) <;> rfl)); (case rel => exact ⟨j + 1, xA, xn, xc, fA, fn, fc, by omega, by go_num, rfl, Lib.hid (by rw [HST.out, HEQ.out]; exact HRN.out), Lib.hid (by rw [HST.out, HEQ.out]; exact HFN.out), Lib.hid (by rw [HST.out, HEQ.out]; exact HO9F.out), Lib.hid (by rw [HST.out, HEQ.out]; exact HOF.out), HXF, hbwF⟩)))
      case false =>
      by_cases h64 : xn < 64
      case neg =>
        have HEQ : Hid (stepQ k (R, Fq) d = (R, Fq)) := Lib.hid (by unfold stepQ; rw [if_pos (.inr (by rw [show (R, Fq).1.length = xn from HRN.out]; omega))])
        have q1 : decide ((64 : Int) ≤ (xn : Int)) = true := by simp; omega
        have q2 : decide ((xn : Int) ≥ 64) = true := by simp; omega
        go_wp2_with fail
        (first | (go_round; (case rel => exact ⟨j + 1, xA, xn, xc, fA, fn, fc, by omega, by go_num, rfl, Lib.hid (by rw [HST.out, HEQ.out]; exact HRN.out), Lib.hid (by rw [HST.out, HEQ.out]; exact HFN.out), Lib.hid (by rw [HST.out, HEQ.out]; exact HO9F.out), Lib.hid (by rw [HST.out, HEQ.out]; exact HOF.out), HXF, hbwF⟩); (case measure => (simp [intOf] <;> omega))) | (go_roundw; (case rel => exact ⟨j + 1, xA, xn, xc, fA, fn, fc, by omega, by go_num, rfl, Lib.hid (by rw [HST.out, HEQ.out]; exact HRN.out), Lib.hid (by rw [HST.out, HEQ.out]; exact HFN.out), Lib.hid (by rw [HST.out, HEQ.out]; exact HO9F.out), Lib.hid (by rw [HST.out, HEQ.out]; exact HOF.out), HXF, hbwF⟩); (case measure => (simp [intOf] <;> omega))) | (refine ⟨?_, by simp [intOf] <;> omega⟩; (repeat apply Exists.intro); refine ⟨?rel, ?fr⟩; (case fr => ((repeat' apply And.intro) <;> rfl)); (case rel => exact ⟨j + 1, xA, xn, xc, fA, fn, fc, by omega, by go_num, rfl, Lib.hid (by rw [HST.out, HEQ.out]; exact HRN.out), Lib.hid (by rw [HST.out, HEQ.out]; exact HFN.out), Lib.hid (by rw [HST.out, HEQ.out]; exact HO9F.out), Lib.hid (by rw [HST.out, HEQ.out]; exact HOF.out), HXF, hbwF⟩)))
      case pos =>
      have q1 : decide ((64 : Int) ≤ (xn : Int)) = false := by simp; omega
      have q2 : decide ((xn : Int) ≥ 64) = false := by simp; omega
      have HEQ : Hid (stepQ k (R, Fq) d = (insQ ⟨k, d, 0, 0⟩ R, insQ ⟨k, d, 0, 0⟩ Fq)) := Lib.hid (by unfold stepQ; rw [if_neg (fun g => g.elim (fun g => by rw [HY.out] at g; cases g) (fun g => by rw [show (R, Fq).1.length = xn from HRN.out] at g; omega))])
      go_upto_region 9 with fail
      clear q1 q2 l0f lbf
      refine wp_two (fun wm hwm => ?_)
      obtain ⟨gr, hgr⟩ : ∃ g, g = wf.heap.size := ⟨_, rfl⟩
      have HRB : Hid (Blk wm gr 55 [.int .i64 k, .int .i64 d, .int .i64 0, .int .i64 0]) := Lib.hid (by rw [hwm, hgr]; exact Blk.new wf 55 [.int .i64 k, .int .i64 d, .int .i64 0, .int .i64 0])
      have hbfm : Below wf.heap.size wf wm := by rw [hwm]; exact bel_alloc (Below.refl _ _)
      have HXB := Lib.hid (HXF.out.up hbfm)
      have HOB := Lib.hid (HOF.out.up hbfm)
      have HFB0 := Lib.hid (HO9F.out.up hbfm)
      have hbm : Below B W1 wm := hbwF.trans (hbfm.mono hBF)
      have hBm : B ≤ wm.heap.size := Nat.le_trans hBF hbfm.size
      have hgrm : gr < wm.heap.size := HRB.out.lt
      have hgxr : gx < gr := by rw [hgr]; exact HXF.out.lt
      rw [← hgr]
      clear hwm hgr HXF HOF HO9F hbwF hbF xl xf x_0 x_1 x_2
      have HRY : Hid (RowsR wm xA xn R) := Lib.hid (HOB.out.rowsR HRN.out (by omega))
      have HSH := Lib.hid (HOB.out.shape HRN.out)
      have HTP : Hid ((R.take p).length = p) := Lib.hid (by rw [List.length_take, show R.length = xn from HRN.out]; omega)
      go_cut [14] from 47 to 54 (fun s14 wx => Hid (OwnQ wx wm.heap.size s14 (R.take p ++ [⟨k, d, 0, 0⟩])) ∧ Below wm.heap.size wm wx)
      case first =>
        rcases HSH.out with ⟨h1, h2, h3⟩ | ⟨g9, h1, hnc⟩
        · subst h1; subst h2; subst h3
          obtain rfl : p = 0 := by omega
          obtain ⟨S, hSd⟩ : ∃ S : World → Prop, S = fun Q => Q.rangeAt gr 0 [.int .i64 k, .int .i64 d, .int .i64 0, .int .i64 0] ∧ Q.cell? ⟨gx, 2, none⟩ = some (.slice none 0 0) := ⟨_, rfl⟩
          have hS2 : ∀ Q, S Q → Q.rangeAt gr 0 [.int .i64 k, .int .i64 d, .int .i64 0, .int .i64 0] := fun Q h => by rw [hSd] at h; exact h.1
          have hS1 : ∀ Q, S Q → Q.cell? ⟨gx, 2, none⟩ = some (.slice none 0 0) := fun Q h => by rw [hSd] at h; exact h.2
          have hS : ∀ Q, Below wm.heap.size wm Q → S Q := fun Q hQ => by rw [hSd]; exact ⟨Blk.rngQ (HRB.out.up hQ), (HXB.out.up hQ).box.2 2 _ rfl⟩
          clear hSd
          refine wp_region_held_drew (S := S) (by kernel_rfl) (hS _ (bel_drew (Below.refl _ _))) (fun hHeld => ?_)
          have hbd : Below wm.heap.size wm wm.drew := bel_drew (Below.refl _ _)
          generalize wm.drew = Z at *
          (refine wpAnyH_tk 0 (some 47) (v := ?_) rfl rfl ?_ ?_; rotate_left; (focus (intro wq hSw; clear hSw; go_simp; all_goals (with_reducible rfl))); simp only [Act.put, List.setIfInBounds_toArray, List.set_cons_zero, List.set_cons_succ])
          (refine wpAnyH_tk 1 (some 48) (v := ?_) rfl rfl ?_ ?_; rotate_left; (focus (intro wq hSw; have q1 := hS1 wq hSw; clear hSw; go_simp; all_goals (with_reducible rfl))); simp only [Act.put, List.setIfInBounds_toArray, List.set_cons_zero, List.set_cons_succ])
          (refine wpAnyH_tk 2 (some 49) (v := ?_) rfl rfl ?_ ?_; rotate_left; (focus (intro wq hSw; clear hSw; go_simp; all_goals (with_reducible rfl))); simp only [Act.put, List.setIfInBounds_toArray, List.set_cons_zero, List.set_cons_succ])
          (refine wpAnyH_tk 3 (some 50) (v := ?_) rfl rfl ?_ ?_; rotate_left; (focus (intro wq hSw; clear hSw; go_simp; all_goals (with_reducible rfl))); simp only [Act.put, List.setIfInBounds_toArray, List.set_cons_zero, List.set_cons_succ])
          refine wpAnyH_takeD (i := 5) (d := (some 52)) (v := .agg ([.int .i64 k, .int .i64 d, .int .i64 0, .int .i64 0]).toArray) rfl rfl (by kernel_rfl) (by kernel_rfl) (by kernel_rfl) (fun _ _ _ h => h) (yieldsIf_load_mid (by rfl) 55 _ rfl gr 0 (by simp [Act.eval, Act.put]) ([.int .i64 k, .int .i64 d, .int .i64 0, .int .i64 0]) _ (hS2) Try.underlying55 (by rfl) (by kernel_rfl)) (by assumption) ?_
          simp only [Act.put, List.setIfInBounds_toArray, List.set_cons_zero, List.set_cons_succ]
          refine wpAnyH_ready (rs := [4, 6]) (by kernel_rfl) (by simp) ?_
          refine AllReadyH.cons (o := _) rfl (fun K hK => ?_) (AllReadyH.cons (o := _) rfl (fun K hK => ?_) AllReadyH.nil)
          · skip
            go_simp
            (go_at_call 45; refine (ref0_CopyRows none 0 0 (R.take 0) _ ((HRY.out.up hbd).take hpn) (by omega)).mono ?_; rintro e w7 ⟨v7, rfl, ho7, hb7⟩)
            obtain ⟨mA, mc, rfl, -⟩ := nmQ ho7 HTP.out (by omega)
            have hbb7 := bel_trans hbd hb7
            have HO7 : Hid (OwnQ w7 wm.heap.size (.slice mA 0 mc) (R.take 0)) := Lib.hid (ho7.mono hbd.size)
            clear ho7
            refine hK.out _ _ (hS _ hbb7) (fun hHeld => ?_)
            clear hK K
            (try simp only [Act.put, List.setIfInBounds_toArray, List.set_cons_zero, List.set_cons_succ])
            refine wpAnyH_ready (rs := [6]) (by kernel_rfl) (by simp) ?_
            refine AllReadyH.cons (o := _) rfl (fun K hK => ?_) AllReadyH.nil
            go_simp
            obtain ⟨gz, hgz⟩ : ∃ g, g = w7.heap.size := ⟨_, rfl⟩
            obtain ⟨ZB, hZB⟩ : ∃ Zr : World, Zr = w7.alloc (.cells #[.int .i64 k, .int .i64 d, .int .i64 0, .int .i64 0] 55) := ⟨_, rfl⟩
            rw [← hgz, ← hZB]
            have hza : Blk ZB gz 55 [.int .i64 k, .int .i64 d, .int .i64 0, .int .i64 0] := by rw [hZB, hgz]; exact Blk.new _ 55 [.int .i64 k, .int .i64 d, .int .i64 0, .int .i64 0]
            have hbz : Below w7.heap.size w7 ZB := by rw [hZB]; exact bel_alloc (Below.refl _ _)
            have hbbz := bel_trans hbb7 hbz
            clear hgz hZB
            have HO8 := Lib.hid (HO7.out.up hbz)
            refine hK.out _ _ (hS _ hbbz) (fun hHeld => ?_)
            clear hK K
            (try simp only [Act.put, List.setIfInBounds_toArray, List.set_cons_zero, List.set_cons_succ])
            refine wpAnyH_ready (rs := [7]) (by kernel_rfl) (by simp) ?_
            refine AllReadyH.cons (o := _) rfl (fun K hK => ?_) AllReadyH.nil
            refine step_appQ rfl (.tmp 51) (.tmp 53) rfl rfl wm.heap.size _ (R.take 0) (by simp [Act.eval, Act.put]) HO8.out gz 0 1 1 [⟨k, d, 0, 0⟩] (by simp [Act.eval, Act.put]) rfl (box_Q hza.box) (by rw [HTP.out]; omega) hbbz.size ?_
            intro v10 w10 hown10 hg10 hb10 hat10
            show K (Act.put _ (some 54) _) _
            refine hK.out _ _ (hS _ (hbbz.trans hb10)) (fun hHeld => ?_)
            clear hK K
            (try simp only [Act.put, List.setIfInBounds_toArray, List.set_cons_zero, List.set_cons_succ])
            (refine wpAnyH_tk 8 (some 14) (v := ?_) rfl rfl ?_ ?_; rotate_left; (focus (intro wq hSw; clear hSw; go_simp; all_goals (with_reducible rfl))); simp only [Act.put, List.setIfInBounds_toArray, List.set_cons_zero, List.set_cons_succ])
            refine wpAnyH_done (by kernel_rfl) ?_ _
            go_wp2_with fail
            go_meet
            exact ⟨Lib.hid hown10, hbbz.trans hb10⟩
          · skip
            go_simp
            obtain ⟨gz, hgz⟩ : ∃ g, g = Z.heap.size := ⟨_, rfl⟩
            obtain ⟨ZB, hZB⟩ : ∃ Zr : World, Zr = Z.alloc (.cells #[.int .i64 k, .int .i64 d, .int .i64 0, .int .i64 0] 55) := ⟨_, rfl⟩
            rw [← hgz, ← hZB]
            have hza : Blk ZB gz 55 [.int .i64 k, .int .i64 d, .int .i64 0, .int .i64 0] := by rw [hZB, hgz]; exact Blk.new _ 55 [.int .i64 k, .int .i64 d, .int .i64 0, .int .i64 0]
            have hbz : Below Z.heap.size Z ZB := by rw [hZB]; exact bel_alloc (Below.refl _ _)
            have hbbz := bel_trans hbd hbz
            clear hgz hZB
            refine hK.out _ _ (hS _ hbbz) (fun hHeld => ?_)
            clear hK K
            (try simp only [Act.put, List.setIfInBounds_toArray, List.set_cons_zero, List.set_cons_succ])
            refine wpAnyH_ready (rs := [4]) (by kernel_rfl) (by simp) ?_
            refine AllReadyH.cons (o := _) rfl (fun K hK => ?_) AllReadyH.nil
            go_simp
            (go_at_call 45; refine (ref0_CopyRows none 0 0 (R.take 0) _ ((HRY.out.up hbbz).take hpn) (by omega)).mono ?_; rintro e w7 ⟨v7, rfl, ho7, hb7⟩)
            obtain ⟨mA, mc, rfl, -⟩ := nmQ ho7 HTP.out (by omega)
            have hbb7 := bel_trans hbbz hb7
            have HO7 : Hid (OwnQ w7 wm.heap.size (.slice mA 0 mc) (R.take 0)) := Lib.hid (ho7.mono hbbz.size)
            clear ho7
            have hza7 := hza.up hb7
            refine hK.out _ _ (hS _ hbb7) (fun hHeld => ?_)
            clear hK K
            (try simp only [Act.put, List.setIfInBounds_toArray, List.set_cons_zero, List.set_cons_succ])
            refine wpAnyH_ready (rs := [7]) (by kernel_rfl) (by simp) ?_
            refine AllReadyH.cons (o := _) rfl (fun K hK => ?_) AllReadyH.nil
            refine step_appQ rfl (.tmp 51) (.tmp 53) rfl rfl wm.heap.size _ (R.take 0) (by simp [Act.eval, Act.put]) HO7.out gz 0 1 1 [⟨k, d, 0, 0⟩] (by simp [Act.eval, Act.put]) rfl (box_Q hza7.box) (by rw [HTP.out]; omega) hbb7.size ?_
            intro v10 w10 hown10 hg10 hb10 hat10
            show K (Act.put _ (some 54) _) _
            refine hK.out _ _ (hS _ (hbb7.trans hb10)) (fun hHeld => ?_)
            clear hK K
            (try simp only [Act.put, List.setIfInBounds_toArray, List.set_cons_zero, List.set_cons_succ])
            (refine wpAnyH_tk 8 (some 14) (v := ?_) rfl rfl ?_ ?_; rotate_left; (focus (intro wq hSw; clear hSw; go_simp; all_goals (with_reducible rfl))); simp only [Act.put, List.setIfInBounds_toArray, List.set_cons_zero, List.set_cons_succ])
            refine wpAnyH_done (by kernel_rfl) ?_ _
            go_wp2_with fail
            go_meet
            exact ⟨Lib.hid hown10, hbb7.trans hb10⟩
        · subst h1
          have hpc : p ≤ xc := by omega
          obtain ⟨S, hSd⟩ : ∃ S : World → Prop, S = fun Q => Q.rangeAt gr 0 [.int .i64 k, .int .i64 d, .int .i64 0, .int .i64 0] ∧ Q.cell? ⟨gx, 2, none⟩ = some (.slice (some ⟨g9, 0, none⟩) xn xc) := ⟨_, rfl⟩
          have hS2 : ∀ Q, S Q → Q.rangeAt gr 0 [.int .i64 k, .int .i64 d, .int .i64 0, .int .i64 0] := fun Q h => by rw [hSd] at h; exact h.1
          have hS1 : ∀ Q, S Q → Q.cell? ⟨gx, 2, none⟩ = some (.slice (some ⟨g9, 0, none⟩) xn xc) := fun Q h => by rw [hSd] at h; exact h.2
          have hS : ∀ Q, Below wm.heap.size wm Q → S Q := fun Q hQ => by rw [hSd]; exact ⟨Blk.rngQ (HRB.out.up hQ), (HXB.out.up hQ).box.2 2 _ rfl⟩
          clear hSd
          refine wp_region_held_drew (S := S) (by kernel_rfl) (hS _ (bel_drew (Below.refl _ _))) (fun hHeld => ?_)
          have hbd : Below wm.heap.size wm wm.drew := bel_drew (Below.refl _ _)
          generalize wm.drew = Z at *
          (refine wpAnyH_tk 0 (some 47) (v := ?_) rfl rfl ?_ ?_; rotate_left; (focus (intro wq hSw; clear hSw; go_simp; all_goals (with_reducible rfl))); simp only [Act.put, List.setIfInBounds_toArray, List.set_cons_zero, List.set_cons_succ])
          (refine wpAnyH_tk 1 (some 48) (v := ?_) rfl rfl ?_ ?_; rotate_left; (focus (intro wq hSw; have q1 := hS1 wq hSw; clear hSw; go_simp; all_goals (with_reducible rfl))); simp only [Act.put, List.setIfInBounds_toArray, List.set_cons_zero, List.set_cons_succ])
          (refine wpAnyH_tk 2 (some 49) (v := ?_) rfl rfl ?_ ?_; rotate_left; (focus (intro wq hSw; clear hSw; go_simp; all_goals (with_reducible rfl))); simp only [Act.put, List.setIfInBounds_toArray, List.set_cons_zero, List.set_cons_succ])
          (refine wpAnyH_tk 3 (some 50) (v := ?_) rfl rfl ?_ ?_; rotate_left; (focus (intro wq hSw; clear hSw; go_simp; all_goals (with_reducible rfl))); simp only [Act.put, List.setIfInBounds_toArray, List.set_cons_zero, List.set_cons_succ])
          refine wpAnyH_takeD (i := 5) (d := (some 52)) (v := .agg ([.int .i64 k, .int .i64 d, .int .i64 0, .int .i64 0]).toArray) rfl rfl (by kernel_rfl) (by kernel_rfl) (by kernel_rfl) (fun _ _ _ h => h) (yieldsIf_load_mid (by rfl) 55 _ rfl gr 0 (by simp [Act.eval, Act.put]) ([.int .i64 k, .int .i64 d, .int .i64 0, .int .i64 0]) _ (hS2) Try.underlying55 (by rfl) (by kernel_rfl)) (by assumption) ?_
          simp only [Act.put, List.setIfInBounds_toArray, List.set_cons_zero, List.set_cons_succ]
          refine wpAnyH_ready (rs := [4, 6]) (by kernel_rfl) (by simp) ?_
          refine AllReadyH.cons (o := _) rfl (fun K hK => ?_) (AllReadyH.cons (o := _) rfl (fun K hK => ?_) AllReadyH.nil)
          · skip
            go_simp
            (go_at_call 45; refine (ref0_CopyRows (some ⟨g9, 0, none⟩) p xc (R.take p) _ ((HRY.out.up hbd).take hpn) (by omega)).mono ?_; rintro e w7 ⟨v7, rfl, ho7, hb7⟩)
            obtain ⟨mA, mc, rfl, -⟩ := nmQ ho7 HTP.out (by omega)
            have hbb7 := bel_trans hbd hb7
            have HO7 : Hid (OwnQ w7 wm.heap.size (.slice mA p mc) (R.take p)) := Lib.hid (ho7.mono hbd.size)
            clear ho7
            refine hK.out _ _ (hS _ hbb7) (fun hHeld => ?_)
            clear hK K
            (try simp only [Act.put, List.setIfInBounds_toArray, List.set_cons_zero, List.set_cons_succ])
            refine wpAnyH_ready (rs := [6]) (by kernel_rfl) (by simp) ?_
            refine AllReadyH.cons (o := _) rfl (fun K hK => ?_) AllReadyH.nil
            go_simp
            obtain ⟨gz, hgz⟩ : ∃ g, g = w7.heap.size := ⟨_, rfl⟩
            obtain ⟨ZB, hZB⟩ : ∃ Zr : World, Zr = w7.alloc (.cells #[.int .i64 k, .int .i64 d, .int .i64 0, .int .i64 0] 55) := ⟨_, rfl⟩
            rw [← hgz, ← hZB]
            have hza : Blk ZB gz 55 [.int .i64 k, .int .i64 d, .int .i64 0, .int .i64 0] := by rw [hZB, hgz]; exact Blk.new _ 55 [.int .i64 k, .int .i64 d, .int .i64 0, .int .i64 0]
            have hbz : Below w7.heap.size w7 ZB := by rw [hZB]; exact bel_alloc (Below.refl _ _)
            have hbbz := bel_trans hbb7 hbz
            clear hgz hZB
            have HO8 := Lib.hid (HO7.out.up hbz)
            refine hK.out _ _ (hS _ hbbz) (fun hHeld => ?_)
            clear hK K
            (try simp only [Act.put, List.setIfInBounds_toArray, List.set_cons_zero, List.set_cons_succ])
            refine wpAnyH_ready (rs := [7]) (by kernel_rfl) (by simp) ?_
            refine AllReadyH.cons (o := _) rfl (fun K hK => ?_) AllReadyH.nil
            refine step_appQ rfl (.tmp 51) (.tmp 53) rfl rfl wm.heap.size _ (R.take p) (by simp [Act.eval, Act.put]) HO8.out gz 0 1 1 [⟨k, d, 0, 0⟩] (by simp [Act.eval, Act.put]) rfl (box_Q hza.box) (by rw [HTP.out]; omega) hbbz.size ?_
            intro v10 w10 hown10 hg10 hb10 hat10
            show K (Act.put _ (some 54) _) _
            refine hK.out _ _ (hS _ (hbbz.trans hb10)) (fun hHeld => ?_)
            clear hK K
            (try simp only [Act.put, List.setIfInBounds_toArray, List.set_cons_zero, List.set_cons_succ])
            (refine wpAnyH_tk 8 (some 14) (v := ?_) rfl rfl ?_ ?_; rotate_left; (focus (intro wq hSw; clear hSw; go_simp; all_goals (with_reducible rfl))); simp only [Act.put, List.setIfInBounds_toArray, List.set_cons_zero, List.set_cons_succ])
            refine wpAnyH_done (by kernel_rfl) ?_ _
            go_wp2_with fail
            go_meet
            exact ⟨Lib.hid hown10, hbbz.trans hb10⟩
          · skip
            go_simp
            obtain ⟨gz, hgz⟩ : ∃ g, g = Z.heap.size := ⟨_, rfl⟩
            obtain ⟨ZB, hZB⟩ : ∃ Zr : World, Zr = Z.alloc (.cells #[.int .i64 k, .int .i64 d, .int .i64 0, .int .i64 0] 55) := ⟨_, rfl⟩
            rw [← hgz, ← hZB]
            have hza : Blk ZB gz 55 [.int .i64 k, .int .i64 d, .int .i64 0, .int .i64 0] := by rw [hZB, hgz]; exact Blk.new _ 55 [.int .i64 k, .int .i64 d, .int .i64 0, .int .i64 0]
            have hbz : Below Z.heap.size Z ZB := by rw [hZB]; exact bel_alloc (Below.refl _ _)
            have hbbz := bel_trans hbd hbz
            clear hgz hZB
            refine hK.out _ _ (hS _ hbbz) (fun hHeld => ?_)
            clear hK K
            (try simp only [Act.put, List.setIfInBounds_toArray, List.set_cons_zero, List.set_cons_succ])
            refine wpAnyH_ready (rs := [4]) (by kernel_rfl) (by simp) ?_
            refine AllReadyH.cons (o := _) rfl (fun K hK => ?_) AllReadyH.nil
            go_simp
            (go_at_call 45; refine (ref0_CopyRows (some ⟨g9, 0, none⟩) p xc (R.take p) _ ((HRY.out.up hbbz).take hpn) (by omega)).mono ?_; rintro e w7 ⟨v7, rfl, ho7, hb7⟩)
            obtain ⟨mA, mc, rfl, -⟩ := nmQ ho7 HTP.out (by omega)
            have hbb7 := bel_trans hbbz hb7
            have HO7 : Hid (OwnQ w7 wm.heap.size (.slice mA p mc) (R.take p)) := Lib.hid (ho7.mono hbbz.size)
            clear ho7
            have hza7 := hza.up hb7
            refine hK.out _ _ (hS _ hbb7) (fun hHeld => ?_)
            clear hK K
            (try simp only [Act.put, List.setIfInBounds_toArray, List.set_cons_zero, List.set_cons_succ])
            refine wpAnyH_ready (rs := [7]) (by kernel_rfl) (by simp) ?_
            refine AllReadyH.cons (o := _) rfl (fun K hK => ?_) AllReadyH.nil
            refine step_appQ rfl (.tmp 51) (.tmp 53) rfl rfl wm.heap.size _ (R.take p) (by simp [Act.eval, Act.put]) HO7.out gz 0 1 1 [⟨k, d, 0, 0⟩] (by simp [Act.eval, Act.put]) rfl (box_Q hza7.box) (by rw [HTP.out]; omega) hbb7.size ?_
            intro v10 w10 hown10 hg10 hb10 hat10
            show K (Act.put _ (some 54) _) _
            refine hK.out _ _ (hS _ (hbb7.trans hb10)) (fun hHeld => ?_)
            clear hK K
            (try simp only [Act.put, List.setIfInBounds_toArray, List.set_cons_zero, List.set_cons_succ])
            (refine wpAnyH_tk 8 (some 14) (v := ?_) rfl rfl ?_ ?_; rotate_left; (focus (intro wq hSw; clear hSw; go_simp; all_goals (with_reducible rfl))); simp only [Act.put, List.setIfInBounds_toArray, List.set_cons_zero, List.set_cons_succ])
            refine wpAnyH_done (by kernel_rfl) ?_ _
            go_wp2_with fail
            go_meet
            exact ⟨Lib.hid hown10, hbb7.trans hb10⟩
      case rest =>
      obtain ⟨HM9, hby⟩ := hcut
      obtain ⟨wy, hwy⟩ : ∃ x, x = wc := ⟨_, rfl⟩
      subst hwy
      have HX9 := Lib.hid (HXB.out.up hby)
      have HF9 := Lib.hid (HFB0.out.up hby)
      have HR9 := Lib.hid (HRB.out.up hby)
      have HRY9 := Lib.hid (HRY.out.up hby)
      have HFB : Hid (∀ g, (Value.slice fA fn fc).ownBlock = some g → g < wm.heap.size) := Lib.hid (fun g e => (own_lt HFB0.out g e).2)
      have hgxm : gx < wm.heap.size := HXB.out.lt
      clear HRY HXB HFB0 HRB HOB
      have HRY := HRY9
      clear HRY9
      have HTM : Hid ((R.take p ++ [(⟨k, d, 0, 0⟩ : FRowD)]).length = p + 1) := Lib.hid (by rw [List.length_append, HTP.out]; rfl)
      obtain ⟨mA, mc, rfl, -⟩ := nmQ HM9.out HTM.out (by omega)
      have HMY := HM9
      have hsy := hby.size
      have HMN : Hid (mA ≠ none ∧ p + 1 ≤ mc) := Lib.hid (by rcases HMY.out.shape HTM.out with ⟨h1, h2, h3⟩ | ⟨g, h1, h2⟩; exact absurd h2 (by omega); exact ⟨by rw [h1]; exact fun h => (by cases h), h2⟩)
      have HDL : Hid ((R.drop p).length = xn - p) := Lib.hid (by rw [List.length_drop, show R.length = xn from HRN.out])
      have HP9 := HP
      have HLQ : Hid ((insQ (⟨k, d, 0, 0⟩ : FRowD) R).length = xn + 1) := Lib.hid (by rw [insQ_len, show R.length = xn from HRN.out])
      have HDV : Hid (∀ g, xA = some ⟨g, 0, none⟩ → ∀ off, (xc ≠ p → off = p * 4) → xn ≤ xc → ∀ j u, (flat encQ (R.drop p))[j]? = some u → wy.cell? ⟨g, off + j, none⟩ = some u) := Lib.hid (fun g eg off h hnc j u hj => if hlt : p < xn then (by have h8 := HRY.out; rw [eg] at h8; have h9 := drop_Q h8 hlt j u hj; rw [h (by omega)]; simpa using h9) else (by rw [List.drop_eq_nil_of_le (by rw [show R.length = xn from HRN.out]; omega)] at hj; simp [flat] at hj))
      have xl := HX9.out.lt
      have xf := HX9.out.frozen
      have x_0 := (HX9.out.box).2 0 _ rfl; have x_1 := (HX9.out.box).2 1 _ rfl; have x_2 := (HX9.out.box).2 2 _ rfl
      go_upto_region 10 with fail
      go_cut [] from 55 to 61 (fun wx => ∃ (sA : Option Addr) (sc : Nat), Hid (Blk wx gx 24 [.int .i64 id, .int .i64 nodes, .slice sA (xn + 1) sc]) ∧ Hid (OwnQ wx B (.slice sA (xn + 1) sc) (insQ ⟨k, d, 0, 0⟩ R)) ∧ Hid (OwnQ wx B (.slice fA fn fc) Fq) ∧ Hid (Blk wx gr 55 [.int .i64 k, .int .i64 d, .int .i64 0, .int .i64 0]) ∧ Below B W1 wx)
      case first =>
        rcases HSH.out with ⟨h1, h2, h3⟩ | ⟨g9, h1, hnc⟩
        · subst h1; subst h2; subst h3
          obtain rfl : p = 0 := by omega
          have hd0 : R = [] := List.eq_nil_of_length_eq_zero HRN.out
          have HNL : Hid (OwnQ wy wm.heap.size (.slice mA (0 + 1) mc) (insQ ⟨k, d, 0, 0⟩ R)) := Lib.hid (by have h9 := HMY.out; have h8 := ins_splitQ HP9.out; rw [← h8]; simpa [hd0] using h9)
          clear hd0
          go_wp2_with (at_builtin; refine wpList_app0Q rfl (.tmp 55) (.tmp 59) rfl _ mA _ mc rfl rfl (fun h => by have h9 := HMN.out; exact absurd h h9.1) (by have h9 := HMN.out; exact h9.2) _ _ rfl ?_)
          have hown5 := HNL.out
          have hb5 : Below wm.heap.size wy wy := Below.refl _ _
          have hX5 := HX9.out
          go_meet
          exact ⟨mA, mc, Lib.hid (hX5.set_ 2 _), Lib.hid ((OwnQ.setAp hown5 (own_ne_blk hown5 hX5 (by decide))).mono (by omega)), Lib.hid (OwnQ.setAp HF9.out (own_ne_blk HF9.out hX5 (by decide))), Lib.hid (HR9.out.far (p := ⟨gx, 2, none⟩) (by show gr ≠ gx; omega) _), (hbm.trans (hby.mono hBm)).trans (Below.set1 hBx _)⟩
        · subst h1
          have hpc : p ≤ xc := by omega
          by_cases hic : xc = p
          · subst hic
            have hxp : xn = xc := by omega
            subst hxp
            have hd0 : R.drop xn = [] := List.drop_eq_nil_of_le (by rw [show R.length = xn from HRN.out]; exact Nat.le_refl _)
            have HNL : Hid (OwnQ wy wm.heap.size (.slice mA (xn + 1) mc) (insQ ⟨k, d, 0, 0⟩ R)) := Lib.hid (by have h9 := HMY.out; have h8 := ins_splitQ HP9.out; rw [hd0, List.append_nil] at h8; rw [← h8]; exact h9)
            clear hd0
            go_wp2_with (at_builtin; refine wpList_app0Q rfl (.tmp 55) (.tmp 59) rfl _ mA _ mc rfl rfl (fun h => by have h9 := HMN.out; exact absurd h h9.1) (by have h9 := HMN.out; exact h9.2) _ _ rfl ?_)
            have hown5 := HNL.out
            have hX5 := HX9.out
            go_meet
            exact ⟨mA, mc, Lib.hid (hX5.set_ 2 _), Lib.hid ((OwnQ.setAp hown5 (own_ne_blk hown5 hX5 (by decide))).mono (by omega)), Lib.hid (OwnQ.setAp HF9.out (own_ne_blk HF9.out hX5 (by decide))), Lib.hid (HR9.out.far (p := ⟨gx, 2, none⟩) (by show gr ≠ gx; omega) _), (hbm.trans (hby.mono hBm)).trans (Below.set1 hBx _)⟩
          · skip
            go_wp2_with (at_builtin; refine wpList_appQ rfl (.tmp 55) (.tmp 59) rfl rfl wm.heap.size _ (R.take p ++ [(⟨k, d, 0, 0⟩ : FRowD)]) rfl HMY.out g9 (p * 4) (xn - p) _ (R.drop p) rfl HDL.out (HDV.out g9 rfl _ (fun h => by first | rfl | omega) hnc) (by rw [HTM.out]; omega) hsy ?_; intro v5 w5 hown5 hg5 hb5 hat5; rw [ins_splitQ HP9.out] at hown5; (obtain ⟨sA, sc, rfl, -⟩ := nmQ hown5 HLQ.out (by omega)); clear xl xf x_0 x_1 x_2; have hX5 : Blk w5 gx 24 [.int .i64 id, .int .i64 nodes, .slice (some ⟨g9, 0, none⟩) xn xc] := (hb5.block gx (by omega)).trans HX9.out; have xl := hX5.lt; have xf := hX5.frozen; have x_0 := (hX5.box).2 0 _ rfl; have x_1 := (hX5.box).2 1 _ rfl; have x_2 := (hX5.box).2 2 _ rfl)
            go_meet
            exact ⟨sA, sc, Lib.hid (hX5.set_ 2 _), Lib.hid ((OwnQ.setAp hown5 (own_ne_blk hown5 hX5 (by decide))).mono (by omega)), Lib.hid (OwnQ.setAp (own_of_heap HF9.out (fun g hg => hb5.block g (HFB.out g hg))) (own_ne_blk (own_of_heap HF9.out (fun g hg => hb5.block g (HFB.out g hg))) hX5 (by decide))), Lib.hid ((show Blk w5 gr 55 [.int .i64 k, .int .i64 d, .int .i64 0, .int .i64 0] from (hb5.block gr hgrm).trans HR9.out).far (p := ⟨gx, 2, none⟩) (by show gr ≠ gx; omega) _), (hbm.trans ((hby.mono hBm).trans (hb5.mono hBm))).trans (Below.set1 hBx _)⟩
      case rest =>
      clear HMY HMN HTM HDL HP9 HLQ HDV HX9 HF9 HR9 HRY HFB hby hbm hBm hsy HSH HTP hgxm xl xf x_0 x_1 x_2
      obtain ⟨sA, sc, HXT, HOT, HFT, HRT, hbT⟩ := hcut
      obtain ⟨wt, hwt⟩ : ∃ x, x = wc := ⟨_, rfl⟩
      subst hwt
      have hbTk : Below w.heap.size w wt := hb2.trans (hbT.mono (by omega))
      have HFR := Lib.hid (HFT.out.rowsR HFN.out (by omega))
      have l0t := (bcell hbTk).1 lb (lo + j) hlb
      rw [L0.out] at l0t
      have lbt : lb < _ := Nat.lt_of_lt_of_le hlb hbTk.size
      go_upto_region 12 with (go_at_call 76; refine (ref21_find fA fn fc Fq k d q z _ HFR.out HQ.out HZ.out).mono ?_; rintro e w5 ⟨rfl, hb5⟩)
      clear l0t lbt
      have HX5 := Lib.hid (HXT.out.up hb5)
      have HO5 := Lib.hid (HOT.out.up hb5)
      have HF5 := Lib.hid (HFT.out.up hb5)
      have HRB := Lib.hid (HRT.out.up hb5)
      have hbn : Below B W1 w5 := hbT.trans (hb5.mono (Nat.le_trans hB2 hbT.size))
      clear HXT HOT HFT HRT HFR hbT hbTk hb5
      obtain ⟨wn, hwn⟩ : ∃ x, x = w5 := ⟨_, rfl⟩
      subst hwn
      have hBn : B ≤ wn.heap.size := Nat.le_trans hB2 hbn.size
      have HRY : Hid (RowsR wn fA fn Fq) := Lib.hid (HF5.out.rowsR HFN.out (by omega))
      have HSH := Lib.hid (HF5.out.shape HFN.out)
      have HTP : Hid ((Fq.take q).length = q) := Lib.hid (by rw [List.length_take, show Fq.length = fn from HFN.out]; omega)
      go_cut [14] from 72 to 78 (fun s14 wx => Hid (OwnQ wx wn.heap.size s14 (Fq.take q ++ [⟨k, d, 0, 0⟩])) ∧ Below wn.heap.size wn wx)
      case first =>
        rcases HSH.out with ⟨h1, h2, h3⟩ | ⟨g9, h1, hnc⟩
        · subst h1; subst h2; subst h3
          obtain rfl : q = 0 := by omega
          obtain ⟨S, hSd⟩ : ∃ S : World → Prop, S = fun Q => Q.rangeAt gr 0 [.int .i64 k, .int .i64 d, .int .i64 0, .int .i64 0] := ⟨_, rfl⟩
          have hS2 : ∀ Q, S Q → Q.rangeAt gr 0 [.int .i64 k, .int .i64 d, .int .i64 0, .int .i64 0] := fun Q h => by rw [hSd] at h; exact h
          have hS : ∀ Q, Below wn.heap.size wn Q → S Q := fun Q hQ => by rw [hSd]; exact Blk.rngQ (HRB.out.up hQ)
          clear hSd
          refine wp_region_held_drew (S := S) (by kernel_rfl) (hS _ (bel_drew (Below.refl _ _))) (fun hHeld => ?_)
          have hbd : Below wn.heap.size wn wn.drew := bel_drew (Below.refl _ _)
          generalize wn.drew = Z at *
          (refine wpAnyH_tk 0 (some 72) (v := ?_) rfl rfl ?_ ?_; rotate_left; (focus (intro wq hSw; clear hSw; go_simp; all_goals (with_reducible rfl))); simp only [Act.put, List.setIfInBounds_toArray, List.set_cons_zero, List.set_cons_succ])
          (refine wpAnyH_tk 1 (some 73) (v := ?_) rfl rfl ?_ ?_; rotate_left; (focus (intro wq hSw; clear hSw; go_simp; all_goals (with_reducible rfl))); simp only [Act.put, List.setIfInBounds_toArray, List.set_cons_zero, List.set_cons_succ])
          (refine wpAnyH_tk 2 (some 74) (v := ?_) rfl rfl ?_ ?_; rotate_left; (focus (intro wq hSw; clear hSw; go_simp; all_goals (with_reducible rfl))); simp only [Act.put, List.setIfInBounds_toArray, List.set_cons_zero, List.set_cons_succ])
          refine wpAnyH_takeD (i := 4) (d := (some 76)) (v := .agg ([.int .i64 k, .int .i64 d, .int .i64 0, .int .i64 0]).toArray) rfl rfl (by kernel_rfl) (by kernel_rfl) (by kernel_rfl) (fun _ _ _ h => h) (yieldsIf_load_mid (by rfl) 55 _ rfl gr 0 (by simp [Act.eval, Act.put]) ([.int .i64 k, .int .i64 d, .int .i64 0, .int .i64 0]) _ (hS2) Try.underlying55 (by rfl) (by kernel_rfl)) (by assumption) ?_
          simp only [Act.put, List.setIfInBounds_toArray, List.set_cons_zero, List.set_cons_succ]
          refine wpAnyH_ready (rs := [3, 5]) (by kernel_rfl) (by simp) ?_
          refine AllReadyH.cons (o := _) rfl (fun K hK => ?_) (AllReadyH.cons (o := _) rfl (fun K hK => ?_) AllReadyH.nil)
          · skip
            go_simp
            (go_at_call 45; refine (ref0_CopyRows none 0 0 (Fq.take 0) _ ((HRY.out.up hbd).take hqn) (by omega)).mono ?_; rintro e w7 ⟨v7, rfl, ho7, hb7⟩)
            obtain ⟨mA, mc, rfl, -⟩ := nmQ ho7 HTP.out (by omega)
            have hbb7 := bel_trans hbd hb7
            have HO7 : Hid (OwnQ w7 wn.heap.size (.slice mA 0 mc) (Fq.take 0)) := Lib.hid (ho7.mono hbd.size)
            clear ho7
            refine hK.out _ _ (hS _ hbb7) (fun hHeld => ?_)
            clear hK K
            (try simp only [Act.put, List.setIfInBounds_toArray, List.set_cons_zero, List.set_cons_succ])
            refine wpAnyH_ready (rs := [5]) (by kernel_rfl) (by simp) ?_
            refine AllReadyH.cons (o := _) rfl (fun K hK => ?_) AllReadyH.nil
            go_simp
            obtain ⟨gz, hgz⟩ : ∃ g, g = w7.heap.size := ⟨_, rfl⟩
            obtain ⟨ZB, hZB⟩ : ∃ Zr : World, Zr = w7.alloc (.cells #[.int .i64 k, .int .i64 d, .int .i64 0, .int .i64 0] 55) := ⟨_, rfl⟩
            rw [← hgz, ← hZB]
            have hza : Blk ZB gz 55 [.int .i64 k, .int .i64 d, .int .i64 0, .int .i64 0] := by rw [hZB, hgz]; exact Blk.new _ 55 [.int .i64 k, .int .i64 d, .int .i64 0, .int .i64 0]
            have hbz : Below w7.heap.size w7 ZB := by rw [hZB]; exact bel_alloc (Below.refl _ _)
            have hbbz := bel_trans hbb7 hbz
            clear hgz hZB
            have HO8 := Lib.hid (HO7.out.up hbz)
            refine hK.out _ _ (hS _ hbbz) (fun hHeld => ?_)
            clear hK K
            (try simp only [Act.put, List.setIfInBounds_toArray, List.set_cons_zero, List.set_cons_succ])
            refine wpAnyH_ready (rs := [6]) (by kernel_rfl) (by simp) ?_
            refine AllReadyH.cons (o := _) rfl (fun K hK => ?_) AllReadyH.nil
            refine step_appQ rfl (.tmp 75) (.tmp 77) rfl rfl wn.heap.size _ (Fq.take 0) (by simp [Act.eval, Act.put]) HO8.out gz 0 1 1 [⟨k, d, 0, 0⟩] (by simp [Act.eval, Act.put]) rfl (box_Q hza.box) (by rw [HTP.out]; omega) hbbz.size ?_
            intro v10 w10 hown10 hg10 hb10 hat10
            show K (Act.put _ (some 78) _) _
            refine hK.out _ _ (hS _ (hbbz.trans hb10)) (fun hHeld => ?_)
            clear hK K
            (try simp only [Act.put, List.setIfInBounds_toArray, List.set_cons_zero, List.set_cons_succ])
            (refine wpAnyH_tk 7 (some 14) (v := ?_) rfl rfl ?_ ?_; rotate_left; (focus (intro wq hSw; clear hSw; go_simp; all_goals (with_reducible rfl))); simp only [Act.put, List.setIfInBounds_toArray, List.set_cons_zero, List.set_cons_succ])
            refine wpAnyH_done (by kernel_rfl) ?_ _
            go_wp2_with fail
            go_meet
            exact ⟨Lib.hid hown10, hbbz.trans hb10⟩
          · skip
            go_simp
            obtain ⟨gz, hgz⟩ : ∃ g, g = Z.heap.size := ⟨_, rfl⟩
            obtain ⟨ZB, hZB⟩ : ∃ Zr : World, Zr = Z.alloc (.cells #[.int .i64 k, .int .i64 d, .int .i64 0, .int .i64 0] 55) := ⟨_, rfl⟩
            rw [← hgz, ← hZB]
            have hza : Blk ZB gz 55 [.int .i64 k, .int .i64 d, .int .i64 0, .int .i64 0] := by rw [hZB, hgz]; exact Blk.new _ 55 [.int .i64 k, .int .i64 d, .int .i64 0, .int .i64 0]
            have hbz : Below Z.heap.size Z ZB := by rw [hZB]; exact bel_alloc (Below.refl _ _)
            have hbbz := bel_trans hbd hbz
            clear hgz hZB
            refine hK.out _ _ (hS _ hbbz) (fun hHeld => ?_)
            clear hK K
            (try simp only [Act.put, List.setIfInBounds_toArray, List.set_cons_zero, List.set_cons_succ])
            refine wpAnyH_ready (rs := [3]) (by kernel_rfl) (by simp) ?_
            refine AllReadyH.cons (o := _) rfl (fun K hK => ?_) AllReadyH.nil
            go_simp
            (go_at_call 45; refine (ref0_CopyRows none 0 0 (Fq.take 0) _ ((HRY.out.up hbbz).take hqn) (by omega)).mono ?_; rintro e w7 ⟨v7, rfl, ho7, hb7⟩)
            obtain ⟨mA, mc, rfl, -⟩ := nmQ ho7 HTP.out (by omega)
            have hbb7 := bel_trans hbbz hb7
            have HO7 : Hid (OwnQ w7 wn.heap.size (.slice mA 0 mc) (Fq.take 0)) := Lib.hid (ho7.mono hbbz.size)
            clear ho7
            have hza7 := hza.up hb7
            refine hK.out _ _ (hS _ hbb7) (fun hHeld => ?_)
            clear hK K
            (try simp only [Act.put, List.setIfInBounds_toArray, List.set_cons_zero, List.set_cons_succ])
            refine wpAnyH_ready (rs := [6]) (by kernel_rfl) (by simp) ?_
            refine AllReadyH.cons (o := _) rfl (fun K hK => ?_) AllReadyH.nil
            refine step_appQ rfl (.tmp 75) (.tmp 77) rfl rfl wn.heap.size _ (Fq.take 0) (by simp [Act.eval, Act.put]) HO7.out gz 0 1 1 [⟨k, d, 0, 0⟩] (by simp [Act.eval, Act.put]) rfl (box_Q hza7.box) (by rw [HTP.out]; omega) hbb7.size ?_
            intro v10 w10 hown10 hg10 hb10 hat10
            show K (Act.put _ (some 78) _) _
            refine hK.out _ _ (hS _ (hbb7.trans hb10)) (fun hHeld => ?_)
            clear hK K
            (try simp only [Act.put, List.setIfInBounds_toArray, List.set_cons_zero, List.set_cons_succ])
            (refine wpAnyH_tk 7 (some 14) (v := ?_) rfl rfl ?_ ?_; rotate_left; (focus (intro wq hSw; clear hSw; go_simp; all_goals (with_reducible rfl))); simp only [Act.put, List.setIfInBounds_toArray, List.set_cons_zero, List.set_cons_succ])
            refine wpAnyH_done (by kernel_rfl) ?_ _
            go_wp2_with fail
            go_meet
            exact ⟨Lib.hid hown10, hbb7.trans hb10⟩
        · subst h1
          have hpc : q ≤ fc := by omega
          obtain ⟨S, hSd⟩ : ∃ S : World → Prop, S = fun Q => Q.rangeAt gr 0 [.int .i64 k, .int .i64 d, .int .i64 0, .int .i64 0] := ⟨_, rfl⟩
          have hS2 : ∀ Q, S Q → Q.rangeAt gr 0 [.int .i64 k, .int .i64 d, .int .i64 0, .int .i64 0] := fun Q h => by rw [hSd] at h; exact h
          have hS : ∀ Q, Below wn.heap.size wn Q → S Q := fun Q hQ => by rw [hSd]; exact Blk.rngQ (HRB.out.up hQ)
          clear hSd
          refine wp_region_held_drew (S := S) (by kernel_rfl) (hS _ (bel_drew (Below.refl _ _))) (fun hHeld => ?_)
          have hbd : Below wn.heap.size wn wn.drew := bel_drew (Below.refl _ _)
          generalize wn.drew = Z at *
          (refine wpAnyH_tk 0 (some 72) (v := ?_) rfl rfl ?_ ?_; rotate_left; (focus (intro wq hSw; clear hSw; go_simp; all_goals (with_reducible rfl))); simp only [Act.put, List.setIfInBounds_toArray, List.set_cons_zero, List.set_cons_succ])
          (refine wpAnyH_tk 1 (some 73) (v := ?_) rfl rfl ?_ ?_; rotate_left; (focus (intro wq hSw; clear hSw; go_simp; all_goals (with_reducible rfl))); simp only [Act.put, List.setIfInBounds_toArray, List.set_cons_zero, List.set_cons_succ])
          (refine wpAnyH_tk 2 (some 74) (v := ?_) rfl rfl ?_ ?_; rotate_left; (focus (intro wq hSw; clear hSw; go_simp; all_goals (with_reducible rfl))); simp only [Act.put, List.setIfInBounds_toArray, List.set_cons_zero, List.set_cons_succ])
          refine wpAnyH_takeD (i := 4) (d := (some 76)) (v := .agg ([.int .i64 k, .int .i64 d, .int .i64 0, .int .i64 0]).toArray) rfl rfl (by kernel_rfl) (by kernel_rfl) (by kernel_rfl) (fun _ _ _ h => h) (yieldsIf_load_mid (by rfl) 55 _ rfl gr 0 (by simp [Act.eval, Act.put]) ([.int .i64 k, .int .i64 d, .int .i64 0, .int .i64 0]) _ (hS2) Try.underlying55 (by rfl) (by kernel_rfl)) (by assumption) ?_
          simp only [Act.put, List.setIfInBounds_toArray, List.set_cons_zero, List.set_cons_succ]
          refine wpAnyH_ready (rs := [3, 5]) (by kernel_rfl) (by simp) ?_
          refine AllReadyH.cons (o := _) rfl (fun K hK => ?_) (AllReadyH.cons (o := _) rfl (fun K hK => ?_) AllReadyH.nil)
          · skip
            go_simp
            (go_at_call 45; refine (ref0_CopyRows (some ⟨g9, 0, none⟩) q fc (Fq.take q) _ ((HRY.out.up hbd).take hqn) (by omega)).mono ?_; rintro e w7 ⟨v7, rfl, ho7, hb7⟩)
            obtain ⟨mA, mc, rfl, -⟩ := nmQ ho7 HTP.out (by omega)
            have hbb7 := bel_trans hbd hb7
            have HO7 : Hid (OwnQ w7 wn.heap.size (.slice mA q mc) (Fq.take q)) := Lib.hid (ho7.mono hbd.size)
            clear ho7
            refine hK.out _ _ (hS _ hbb7) (fun hHeld => ?_)
            clear hK K
            (try simp only [Act.put, List.setIfInBounds_toArray, List.set_cons_zero, List.set_cons_succ])
            refine wpAnyH_ready (rs := [5]) (by kernel_rfl) (by simp) ?_
            refine AllReadyH.cons (o := _) rfl (fun K hK => ?_) AllReadyH.nil
            go_simp
            obtain ⟨gz, hgz⟩ : ∃ g, g = w7.heap.size := ⟨_, rfl⟩
            obtain ⟨ZB, hZB⟩ : ∃ Zr : World, Zr = w7.alloc (.cells #[.int .i64 k, .int .i64 d, .int .i64 0, .int .i64 0] 55) := ⟨_, rfl⟩
            rw [← hgz, ← hZB]
            have hza : Blk ZB gz 55 [.int .i64 k, .int .i64 d, .int .i64 0, .int .i64 0] := by rw [hZB, hgz]; exact Blk.new _ 55 [.int .i64 k, .int .i64 d, .int .i64 0, .int .i64 0]
            have hbz : Below w7.heap.size w7 ZB := by rw [hZB]; exact bel_alloc (Below.refl _ _)
            have hbbz := bel_trans hbb7 hbz
            clear hgz hZB
            have HO8 := Lib.hid (HO7.out.up hbz)
            refine hK.out _ _ (hS _ hbbz) (fun hHeld => ?_)
            clear hK K
            (try simp only [Act.put, List.setIfInBounds_toArray, List.set_cons_zero, List.set_cons_succ])
            refine wpAnyH_ready (rs := [6]) (by kernel_rfl) (by simp) ?_
            refine AllReadyH.cons (o := _) rfl (fun K hK => ?_) AllReadyH.nil
            refine step_appQ rfl (.tmp 75) (.tmp 77) rfl rfl wn.heap.size _ (Fq.take q) (by simp [Act.eval, Act.put]) HO8.out gz 0 1 1 [⟨k, d, 0, 0⟩] (by simp [Act.eval, Act.put]) rfl (box_Q hza.box) (by rw [HTP.out]; omega) hbbz.size ?_
            intro v10 w10 hown10 hg10 hb10 hat10
            show K (Act.put _ (some 78) _) _
            refine hK.out _ _ (hS _ (hbbz.trans hb10)) (fun hHeld => ?_)
            clear hK K
            (try simp only [Act.put, List.setIfInBounds_toArray, List.set_cons_zero, List.set_cons_succ])
            (refine wpAnyH_tk 7 (some 14) (v := ?_) rfl rfl ?_ ?_; rotate_left; (focus (intro wq hSw; clear hSw; go_simp; all_goals (with_reducible rfl))); simp only [Act.put, List.setIfInBounds_toArray, List.set_cons_zero, List.set_cons_succ])
            refine wpAnyH_done (by kernel_rfl) ?_ _
            go_wp2_with fail
            go_meet
            exact ⟨Lib.hid hown10, hbbz.trans hb10⟩
          · skip
            go_simp
            obtain ⟨gz, hgz⟩ : ∃ g, g = Z.heap.size := ⟨_, rfl⟩
            obtain ⟨ZB, hZB⟩ : ∃ Zr : World, Zr = Z.alloc (.cells #[.int .i64 k, .int .i64 d, .int .i64 0, .int .i64 0] 55) := ⟨_, rfl⟩
            rw [← hgz, ← hZB]
            have hza : Blk ZB gz 55 [.int .i64 k, .int .i64 d, .int .i64 0, .int .i64 0] := by rw [hZB, hgz]; exact Blk.new _ 55 [.int .i64 k, .int .i64 d, .int .i64 0, .int .i64 0]
            have hbz : Below Z.heap.size Z ZB := by rw [hZB]; exact bel_alloc (Below.refl _ _)
            have hbbz := bel_trans hbd hbz
            clear hgz hZB
            refine hK.out _ _ (hS _ hbbz) (fun hHeld => ?_)
            clear hK K
            (try simp only [Act.put, List.setIfInBounds_toArray, List.set_cons_zero, List.set_cons_succ])
            refine wpAnyH_ready (rs := [3]) (by kernel_rfl) (by simp) ?_
            refine AllReadyH.cons (o := _) rfl (fun K hK => ?_) AllReadyH.nil
            go_simp
            (go_at_call 45; refine (ref0_CopyRows (some ⟨g9, 0, none⟩) q fc (Fq.take q) _ ((HRY.out.up hbbz).take hqn) (by omega)).mono ?_; rintro e w7 ⟨v7, rfl, ho7, hb7⟩)
            obtain ⟨mA, mc, rfl, -⟩ := nmQ ho7 HTP.out (by omega)
            have hbb7 := bel_trans hbbz hb7
            have HO7 : Hid (OwnQ w7 wn.heap.size (.slice mA q mc) (Fq.take q)) := Lib.hid (ho7.mono hbbz.size)
            clear ho7
            have hza7 := hza.up hb7
            refine hK.out _ _ (hS _ hbb7) (fun hHeld => ?_)
            clear hK K
            (try simp only [Act.put, List.setIfInBounds_toArray, List.set_cons_zero, List.set_cons_succ])
            refine wpAnyH_ready (rs := [6]) (by kernel_rfl) (by simp) ?_
            refine AllReadyH.cons (o := _) rfl (fun K hK => ?_) AllReadyH.nil
            refine step_appQ rfl (.tmp 75) (.tmp 77) rfl rfl wn.heap.size _ (Fq.take q) (by simp [Act.eval, Act.put]) HO7.out gz 0 1 1 [⟨k, d, 0, 0⟩] (by simp [Act.eval, Act.put]) rfl (box_Q hza7.box) (by rw [HTP.out]; omega) hbb7.size ?_
            intro v10 w10 hown10 hg10 hb10 hat10
            show K (Act.put _ (some 78) _) _
            refine hK.out _ _ (hS _ (hbb7.trans hb10)) (fun hHeld => ?_)
            clear hK K
            (try simp only [Act.put, List.setIfInBounds_toArray, List.set_cons_zero, List.set_cons_succ])
            (refine wpAnyH_tk 7 (some 14) (v := ?_) rfl rfl ?_ ?_; rotate_left; (focus (intro wq hSw; clear hSw; go_simp; all_goals (with_reducible rfl))); simp only [Act.put, List.setIfInBounds_toArray, List.set_cons_zero, List.set_cons_succ])
            refine wpAnyH_done (by kernel_rfl) ?_ _
            go_wp2_with fail
            go_meet
            exact ⟨Lib.hid hown10, hbb7.trans hb10⟩
      case rest =>
      obtain ⟨HM9, hby⟩ := hcut
      obtain ⟨wy, hwy⟩ : ∃ x, x = wc := ⟨_, rfl⟩
      subst hwy
      have HRY9 := Lib.hid (HRY.out.up hby)
      clear HRY
      have HRY := HRY9
      clear HRY9
      have HTM : Hid ((Fq.take q ++ [(⟨k, d, 0, 0⟩ : FRowD)]).length = q + 1) := Lib.hid (by rw [List.length_append, HTP.out]; rfl)
      obtain ⟨mA, mc, rfl, -⟩ := nmQ HM9.out HTM.out (by omega)
      have HMY := HM9
      have hsy := hby.size
      have HMN : Hid (mA ≠ none ∧ q + 1 ≤ mc) := Lib.hid (by rcases HMY.out.shape HTM.out with ⟨h1, h2, h3⟩ | ⟨g, h1, h2⟩; exact absurd h2 (by omega); exact ⟨by rw [h1]; exact fun h => (by cases h), h2⟩)
      have HDL : Hid ((Fq.drop q).length = fn - q) := Lib.hid (by rw [List.length_drop, show Fq.length = fn from HFN.out])
      have HP9 := HQ
      have HLQ : Hid ((insQ (⟨k, d, 0, 0⟩ : FRowD) Fq).length = fn + 1) := Lib.hid (by rw [insQ_len, show Fq.length = fn from HFN.out])
      have HDV : Hid (∀ g, fA = some ⟨g, 0, none⟩ → ∀ off, (fc ≠ q → off = q * 4) → fn ≤ fc → ∀ j u, (flat encQ (Fq.drop q))[j]? = some u → wy.cell? ⟨g, off + j, none⟩ = some u) := Lib.hid (fun g eg off h hnc j u hj => if hlt : q < fn then (by have h8 := HRY.out; rw [eg] at h8; have h9 := drop_Q h8 hlt j u hj; rw [h (by omega)]; simpa using h9) else (by rw [List.drop_eq_nil_of_le (by rw [show Fq.length = fn from HFN.out]; omega)] at hj; simp [flat] at hj))
      have HX5' := HX5
      rcases HSH.out with ⟨h1, h2, h3⟩ | ⟨g9, h1, hnc⟩
      · subst h1; subst h2; subst h3
        obtain rfl : q = 0 := by omega
        have hd0 : Fq = [] := List.eq_nil_of_length_eq_zero HFN.out
        have HNL : Hid (OwnQ wy wn.heap.size (.slice mA (0 + 1) mc) (insQ ⟨k, d, 0, 0⟩ Fq)) := Lib.hid (by have h9 := HMY.out; have h8 := ins_splitQ HP9.out; rw [← h8]; simpa [hd0] using h9)
        clear hd0
        go_wp2_with (at_builtin; refine wpList_app0Q rfl (.tmp 79) (.tmp 82) rfl _ mA _ mc rfl rfl (fun h => by have h9 := HMN.out; exact absurd h h9.1) (by have h9 := HMN.out; exact h9.2) _ _ rfl ?_)
        have hown5 := HNL.out
        have hbnu := hby
        (first | (go_round; (case rel => exact ⟨j + 1, sA, xn + 1, sc, mA, 0 + 1, mc, by omega, by go_num, rfl, Lib.hid (by rw [HST.out, HEQ.out]; show (insQ _ R).length = _; rw [insQ_len, show R.length = xn from HRN.out]), Lib.hid (by rw [HST.out, HEQ.out]; exact HLQ.out), Lib.hid (by rw [HST.out, HEQ.out]; exact hown5.mono (by omega)), Lib.hid (by rw [HST.out, HEQ.out]; exact HO5.out.up hbnu), Lib.hid (HX5.out.up hbnu), hbn.trans (hbnu.mono hBn)⟩); (case measure => (simp [intOf] <;> omega))) | (go_roundw; (case rel => exact ⟨j + 1, sA, xn + 1, sc, mA, 0 + 1, mc, by omega, by go_num, rfl, Lib.hid (by rw [HST.out, HEQ.out]; show (insQ _ R).length = _; rw [insQ_len, show R.length = xn from HRN.out]), Lib.hid (by rw [HST.out, HEQ.out]; exact HLQ.out), Lib.hid (by rw [HST.out, HEQ.out]; exact hown5.mono (by omega)), Lib.hid (by rw [HST.out, HEQ.out]; exact HO5.out.up hbnu), Lib.hid (HX5.out.up hbnu), hbn.trans (hbnu.mono hBn)⟩); (case measure => (simp [intOf] <;> omega))) | (refine ⟨?_, by simp [intOf] <;> omega⟩; (repeat apply Exists.intro); refine ⟨?rel, ?fr⟩; (case fr => ((repeat' apply And.intro) <;> rfl)); (case rel => exact ⟨j + 1, sA, xn + 1, sc, mA, 0 + 1, mc, by omega, by go_num, rfl, Lib.hid (by rw [HST.out, HEQ.out]; show (insQ _ R).length = _; rw [insQ_len, show R.length = xn from HRN.out]), Lib.hid (by rw [HST.out, HEQ.out]; exact HLQ.out), Lib.hid (by rw [HST.out, HEQ.out]; exact hown5.mono (by omega)), Lib.hid (by rw [HST.out, HEQ.out]; exact HO5.out.up hbnu), Lib.hid (HX5.out.up hbnu), hbn.trans (hbnu.mono hBn)⟩)))
      · subst h1
        have hpc : q ≤ fc := by omega
        by_cases hic : fc = q
        · subst hic
          have hxp : fn = fc := by omega
          subst hxp
          have hd0 : Fq.drop fn = [] := List.drop_eq_nil_of_le (by rw [show Fq.length = fn from HFN.out]; exact Nat.le_refl _)
          have HNL : Hid (OwnQ wy wn.heap.size (.slice mA (fn + 1) mc) (insQ ⟨k, d, 0, 0⟩ Fq)) := Lib.hid (by have h9 := HMY.out; have h8 := ins_splitQ HP9.out; rw [hd0, List.append_nil] at h8; rw [← h8]; exact h9)
          clear hd0
          go_wp2_with (at_builtin; refine wpList_app0Q rfl (.tmp 79) (.tmp 82) rfl _ mA _ mc rfl rfl (fun h => by have h9 := HMN.out; exact absurd h h9.1) (by have h9 := HMN.out; exact h9.2) _ _ rfl ?_)
          have hown5 := HNL.out
          have hbnu := hby
          (first | (go_round; (case rel => exact ⟨j + 1, sA, xn + 1, sc, mA, fn + 1, mc, by omega, by go_num, rfl, Lib.hid (by rw [HST.out, HEQ.out]; show (insQ _ R).length = _; rw [insQ_len, show R.length = xn from HRN.out]), Lib.hid (by rw [HST.out, HEQ.out]; exact HLQ.out), Lib.hid (by rw [HST.out, HEQ.out]; exact hown5.mono (by omega)), Lib.hid (by rw [HST.out, HEQ.out]; exact HO5.out.up hbnu), Lib.hid (HX5.out.up hbnu), hbn.trans (hbnu.mono hBn)⟩); (case measure => (simp [intOf] <;> omega))) | (go_roundw; (case rel => exact ⟨j + 1, sA, xn + 1, sc, mA, fn + 1, mc, by omega, by go_num, rfl, Lib.hid (by rw [HST.out, HEQ.out]; show (insQ _ R).length = _; rw [insQ_len, show R.length = xn from HRN.out]), Lib.hid (by rw [HST.out, HEQ.out]; exact HLQ.out), Lib.hid (by rw [HST.out, HEQ.out]; exact hown5.mono (by omega)), Lib.hid (by rw [HST.out, HEQ.out]; exact HO5.out.up hbnu), Lib.hid (HX5.out.up hbnu), hbn.trans (hbnu.mono hBn)⟩); (case measure => (simp [intOf] <;> omega))) | (refine ⟨?_, by simp [intOf] <;> omega⟩; (repeat apply Exists.intro); refine ⟨?rel, ?fr⟩; (case fr => ((repeat' apply And.intro) <;> rfl)); (case rel => exact ⟨j + 1, sA, xn + 1, sc, mA, fn + 1, mc, by omega, by go_num, rfl, Lib.hid (by rw [HST.out, HEQ.out]; show (insQ _ R).length = _; rw [insQ_len, show R.length = xn from HRN.out]), Lib.hid (by rw [HST.out, HEQ.out]; exact HLQ.out), Lib.hid (by rw [HST.out, HEQ.out]; exact hown5.mono (by omega)), Lib.hid (by rw [HST.out, HEQ.out]; exact HO5.out.up hbnu), Lib.hid (HX5.out.up hbnu), hbn.trans (hbnu.mono hBn)⟩)))
        · skip
          go_wp2_with (at_builtin; refine wpList_appQ rfl (.tmp 79) (.tmp 82) rfl rfl wn.heap.size _ (Fq.take q ++ [(⟨k, d, 0, 0⟩ : FRowD)]) rfl HMY.out g9 (q * 4) (fn - q) _ (Fq.drop q) rfl HDL.out (HDV.out g9 rfl _ (fun h => by first | rfl | omega) hnc) (by rw [HTM.out]; omega) hsy ?_; intro v5 w5 hown5 hg5 hb5 hat5; rw [ins_splitQ HP9.out] at hown5; (obtain ⟨tA, tc, rfl, -⟩ := nmQ hown5 HLQ.out (by omega)))
          have hbnu := hby.trans hb5
          (first | (go_round; (case rel => exact ⟨j + 1, sA, xn + 1, sc, tA, fn + 1, tc, by omega, by go_num, rfl, Lib.hid (by rw [HST.out, HEQ.out]; show (insQ _ R).length = _; rw [insQ_len, show R.length = xn from HRN.out]), Lib.hid (by rw [HST.out, HEQ.out]; exact HLQ.out), Lib.hid (by rw [HST.out, HEQ.out]; exact hown5.mono (by omega)), Lib.hid (by rw [HST.out, HEQ.out]; exact HO5.out.up hbnu), Lib.hid (HX5.out.up hbnu), hbn.trans (hbnu.mono hBn)⟩); (case measure => (simp [intOf] <;> omega))) | (go_roundw; (case rel => exact ⟨j + 1, sA, xn + 1, sc, tA, fn + 1, tc, by omega, by go_num, rfl, Lib.hid (by rw [HST.out, HEQ.out]; show (insQ _ R).length = _; rw [insQ_len, show R.length = xn from HRN.out]), Lib.hid (by rw [HST.out, HEQ.out]; exact HLQ.out), Lib.hid (by rw [HST.out, HEQ.out]; exact hown5.mono (by omega)), Lib.hid (by rw [HST.out, HEQ.out]; exact HO5.out.up hbnu), Lib.hid (HX5.out.up hbnu), hbn.trans (hbnu.mono hBn)⟩); (case measure => (simp [intOf] <;> omega))) | (refine ⟨?_, by simp [intOf] <;> omega⟩; (repeat apply Exists.intro); refine ⟨?rel, ?fr⟩; (case fr => ((repeat' apply And.intro) <;> rfl)); (case rel => exact ⟨j + 1, sA, xn + 1, sc, tA, fn + 1, tc, by omega, by go_num, rfl, Lib.hid (by rw [HST.out, HEQ.out]; show (insQ _ R).length = _; rw [insQ_len, show R.length = xn from HRN.out]), Lib.hid (by rw [HST.out, HEQ.out]; exact HLQ.out), Lib.hid (by rw [HST.out, HEQ.out]; exact hown5.mono (by omega)), Lib.hid (by rw [HST.out, HEQ.out]; exact HO5.out.up hbnu), Lib.hid (HX5.out.up hbnu), hbn.trans (hbnu.mono hBn)⟩)))
    · skip
      subst hB
      obtain rfl : ln = j := by omega
      rw [List.take_of_length_le (by rw [HLN.out]; exact Nat.le_refl _)] at HRN HFN HO9 HOX
      rw [HRF.out] at HRN HFN HO9 HOX
      have HWI := HWL
      have hfn64 : fn ≤ 64 := by rw [← HFN.out]; exact Nat.le_trans HWI.out.l2 HWI.out.l1
      have HTF : Hid (∀ j, j < fn → 0 ≤ (qth Fq j).tr ∧ (qth Fq j).tr ≤ 1099511627776) := Lib.hid (fun j hj => by
        have hj' : j < Fq.length := by rw [show Fq.length = fn from HFN.out]; exact hj
        rw [qth_at _ _ hj']
        exact numB_iff.1 (HWI.out.tr _ (HWI.out.sub _ (List.getElem_mem hj'))))
      have HF4 := HX
      have HG4 : Hid (Blk wk (w.heap.size + 1) 24 [.int .i64 0, .int .i64 0, .slice none 0 0]) := Lib.hid ((hbw.block _ (by omega)).trans HG2.out)
      have HR4 := HOX
      have HFR : Hid (RowsR wk fA fn Fq) := Lib.hid (HO9.out.rowsR HFN.out (by omega))
      have hb4 := hbk
      have hw4 : w.heap.size + 2 ≤ wk.heap.size := by omega
      go_upto_region 14 with fail
      obtain ⟨W4, hW4⟩ : ∃ x, x = wk := ⟨_, rfl⟩
      subst hW4
      go_cut [7] from 84 to 87 (fun s7 wx => Hid (Blk wx (w.heap.size + 1) 24 [.int .i64 id, .int .i64 nodes, .slice xA xn xc]) ∧ Hid (OwnQ wx (w.heap.size + 2) (.slice xA xn xc) R) ∧ Hid (OwnMs wx (w.heap.size + 2) s7 (fL id nodes Fq)) ∧ Below w.heap.size w wx)
      case first =>
        obtain ⟨S, hSd⟩ : ∃ S : World → Prop, S = fun Q => Q.rangeAt gx 0 [.int .i64 id, .int .i64 nodes, .slice xA xn xc] := ⟨_, rfl⟩
        have hS1 : ∀ Q, S Q → Q.rangeAt gx 0 [.int .i64 id, .int .i64 nodes, .slice xA xn xc] := fun Q h => by rw [hSd] at h; exact h
        have hS : ∀ Q, Below W4.heap.size W4 Q → S Q := fun Q hQ => by rw [hSd]; exact Blk.rngQ (HF4.out.up hQ)
        have hS2 : ∀ Q, Blk Q gx 24 [.int .i64 id, .int .i64 nodes, .slice xA xn xc] → S Q := fun Q h => by rw [hSd]; exact Blk.rngQ h
        clear hSd
        refine wp_region_held_drew (S := S) (by kernel_rfl) (hS _ (bel_drew (Below.refl _ _))) (fun hHeld => ?_)
        have hbd : Below W4.heap.size W4 W4.drew := bel_drew (Below.refl _ _)
        generalize W4.drew = Z at *
        refine wpAnyH_takeD (i := 0) (d := (some 84)) (v := .agg ([.int .i64 id, .int .i64 nodes, .slice xA xn xc]).toArray) rfl rfl (by kernel_rfl) (by kernel_rfl) (by kernel_rfl) (fun _ _ _ h => h) (yieldsIf_load_mid (by rfl) 24 _ rfl gx 0 (by simp [Act.eval, Act.put]) ([.int .i64 id, .int .i64 nodes, .slice xA xn xc]) _ (hS1) Try.underlying24 (by rfl) (by kernel_rfl)) (by assumption) ?_
        simp only [Act.put, List.setIfInBounds_toArray, List.set_cons_zero, List.set_cons_succ]
        refine wpAnyH_takeD (i := 1) (d := (some 85)) (v := .agg ([.int .i64 id, .int .i64 nodes, .slice xA xn xc]).toArray) rfl rfl (by kernel_rfl) (by kernel_rfl) (by kernel_rfl) (fun _ _ _ h => h) (yieldsIf_load_mid (by rfl) 24 _ rfl gx 0 (by simp [Act.eval, Act.put]) ([.int .i64 id, .int .i64 nodes, .slice xA xn xc]) _ (hS1) Try.underlying24 (by rfl) (by kernel_rfl)) (by assumption) ?_
        simp only [Act.put, List.setIfInBounds_toArray, List.set_cons_zero, List.set_cons_succ]
        (refine wpAnyH_tk 2 (some 86) (v := ?_) rfl rfl ?_ ?_; rotate_left; (focus (intro wq hSw; clear hSw; go_simp; all_goals (with_reducible rfl))); simp only [Act.put, List.setIfInBounds_toArray, List.set_cons_zero, List.set_cons_succ])
        refine wpAnyH_ready (rs := [3]) (by kernel_rfl) (by simp) ?_
        refine AllReadyH.cons (o := _) rfl (fun K hK => ?_) AllReadyH.nil
        go_simp
        (go_at_call 77; refine (ref21_asks id nodes xA xn xc fA fn fc Fq _ (HFR.out.up hbd) hfn64 h1 h2 h4 HTF.out).mono ?_; rintro e w5 ⟨vl, rfl, hm5, hb5⟩)
        have hbb := bel_trans hbd hb5
        have hsd := hbd.size
        refine hK.out _ _ (hS _ hbb) (fun hHeld => ?_)
        clear hK K
        (try simp only [Act.put, List.setIfInBounds_toArray, List.set_cons_zero, List.set_cons_succ])
        refine wpAnyH_ready (rs := [4]) (by kernel_rfl) (by simp) ?_
        refine AllReadyH.cons (o := _) rfl (fun K hK => ?_) AllReadyH.nil
        have hG5 := HG4.out.up hbb
        have gl := hG5.lt
        have gf := hG5.frozen
        have g_0 := (hG5.box).2 0 _ rfl; have g_1 := (hG5.box).2 1 _ rfl; have g_2 := (hG5.box).2 2 _ rfl
        go_simp
        clear gl gf g_0 g_1 g_2
        refine hK.out _ _ (hS2 _ (((HF4.out.up hbb).far (p := ⟨w.heap.size + 1, 0, none⟩) (by show gx ≠ w.heap.size + 1; omega) _).far (p := ⟨w.heap.size + 1, 1, none⟩) (by show gx ≠ w.heap.size + 1; omega) _ |>.far (p := ⟨w.heap.size + 1, 2, none⟩) (by show gx ≠ w.heap.size + 1; omega) _)) (fun hHeld => ?_)
        clear hK K
        (try simp only [Act.put, List.setIfInBounds_toArray, List.set_cons_zero, List.set_cons_succ])
        (refine wpAnyH_tk 5 (some 7) (v := ?_) rfl rfl ?_ ?_; rotate_left; (focus (intro wq hSw; clear hSw; go_simp; all_goals (with_reducible rfl))); simp only [Act.put, List.setIfInBounds_toArray, List.set_cons_zero, List.set_cons_succ])
        refine wpAnyH_done (by kernel_rfl) ?_ _
        go_wp2_with fail
        go_meet
        exact ⟨Lib.hid (((hG5.set_ 0 _).set_ 1 _).set_ 2 _), Lib.hid (OwnQ.set3 (OwnQ.set3 (OwnQ.set3 (HR4.out.up hbb) (by omega) _) (by omega) _) (by omega) _), Lib.hid (OwnMs.low (OwnMs.low (OwnMs.low (hm5.mono (by omega)) (by omega)) (by omega)) (by omega)), bel_set3 (bel_set3 (bel_set3 (bel_trans hb4 hbb) (by omega)) (by omega)) (by omega)⟩
      case rest =>
      obtain ⟨HG9, HR9, HM9, hb9⟩ := hcut
      have gl := HG9.out.lt
      have gf := HG9.out.frozen
      have g_0 := (HG9.out.box).2 0 _ rfl; have g_1 := (HG9.out.box).2 1 _ rfl; have g_2 := (HG9.out.box).2 2 _ rfl
      go_wp2_with fail
      refine bodyPost_ret (v := .tuple #[.agg #[.int .i64 id, .int .i64 nodes, .slice xA xn xc], _]) (by simp [results, Try.results52, go_sem, g_0, g_1, g_2] <;> rfl) rfl ⟨_, _, rfl, by first | (rw [HRF.out]; exact HR9.out) | (rw [HRF.out, ← hB]; exact HR9.out), by first | (rw [HRF.out]; exact HM9.out) | (rw [HRF.out, ← hB]; exact HM9.out), hb9⟩
end Go.Proofs.Ytnngeaibdnnpoaa
namespace Go.Proofs.Ytnngeaibdnnpoaa
open Go.RowKit
set_option linter.unusedSimpArgs false
set_option linter.unusedVariables false

theorem RowM.keep {S : TypeId → Prop} {w w' : World} {B : Nat} {s : SlP} (h : RowM w B s) (hk : KeepS S w w') (hS : ¬ S 44) : RowM w' B s := by
  rcases h with h | ⟨g, cur, e, hb, hg, h1, h2, h3, h4⟩
  · exact .inl h
  · obtain ⟨c', k1, k2, k3⟩ := hk g cur _ hg
    exact .inr ⟨g, c', e, hb, k1, h1, h2, by omega, fun j hj => (h4 j hj).keep hk hg hS⟩
theorem fMk_mil {k id tt : Int} {ds : List Int} (h : ds.length ≤ 1000000) : MilM (fMk k id tt ds) := ⟨by simp [fMk], by simp [fMk], by simp [fMk], by simp [fMk], by simp [fMk], by simp [fMk], h⟩
theorem fN_mil (id nodes : Int) (l : List FRowD) : ∀ s, ∀ x ∈ fN id nodes l s, MilM x
  | 0, x, h => by simp [fN] at h
  | s + 1, x, h => by
    rw [fN, List.mem_append] at h
    rcases h with h | h
    · exact fN_mil id nodes l s x h
    · simp only [fS, chM, List.mem_map, List.mem_range] at h
      obtain ⟨i, _, rfl⟩ := h
      exact fMk_mil (by simp; omega)
theorem fL_mil (id nodes : Int) (l : List FRowD) : ∀ x ∈ fL id nodes l, MilM x := by
  unfold fL
  split
  · exact fun x h => by simp at h
  · exact fN_mil id nodes l _
theorem fL_len (id nodes : Int) (l : List FRowD) (hl : l.length ≤ 64) (hn : nodes ≤ 16) : (fL id nodes l).length ≤ 1000000 := by
  unfold fL
  split
  · simp
  · have := fN_len id nodes l hl (2 * nodes.toNat); omega
end Go.Proofs.Ytnngeaibdnnpoaa
namespace Go.Proofs.Ytnngeaibdnnpoaa
open Go.RowKit
set_option linter.unusedSimpArgs false
set_option linter.unusedVariables false

theorem refd_Digests (A : Option Addr) (n c : Nat) (l : List Int) (y : Bool) (w : World) (hl : IntsR w A n l) (hy : betS l 1 65536 = y) : Calls Try.prog 51 #[.slice A n c] w fun e w' => e = .returned (.bool y) ∧ w = w' := (ref0_Digests A n c l w hl).mono fun e w' ⟨h1, h2⟩ => ⟨by rw [h1, hy], h2⟩
theorem msX_rowM {w w' : World} {B : Nat} {s : SlP} {Ms : List MsgD} (h : OwnMs w B s.v Ms) (hb : Below w.heap.size w w') (hm : ∀ x ∈ Ms, MilM x) : RowM w' B s := by
  obtain ⟨ps, h⟩ := h.up hb
  exact msgs_rowM h hm
end Go.Proofs.Ytnngeaibdnnpoaa
namespace Go.Proofs.Ytnngeaibdnnpoaa
open Go.RowKit
set_option linter.unusedSimpArgs false
set_option linter.unusedVariables false

set_option maxRecDepth 100000 in
set_option maxHeartbeats 8000000 in
theorem stepW_ok (id nodes : Int) (A : Option Addr) (n c : Nat) (rows : List FRowD) (dv ak ag : Int) (C : Option Addr) (m dd : Nat) (r : Int) (hr : ¬ r = 3 ∧ ¬ r = 4 ∧ ¬ r = 5) (lst : List Int) (w : World) (hl : RowsR w A n rows) (hM : mayF ⟨id, nodes, rows⟩ = true) (hd : wiI dv 6 = r) (hC : IntsR w C m lst) (hm2 : m ≤ 2000) (hK : kdS ak = true) (hD : betS lst 1 65536 = true) :
    Calls Try.prog 24 #[.agg #[.int .i64 id, .int .i64 nodes, .slice A n c], .agg #[.int .i64 dv, .int .i64 ak, .int .i64 ag, .slice C m dd]] w fun e w' => StepR w' e ∧ Below w.heap.size w w' := by
  have hm := mayF_iff.1 hM
  have hn : n ≤ 64 := by rw [← hl.1]; exact hm.2.2.2.1
  have hn16 : nodes ≤ 16 := (isS_bd hm.1).2
  have htr : ∀ x ∈ rows, numB x.tr 0 = true := fun x hx => by
    obtain ⟨i, hi, rfl⟩ := List.getElem_of_mem hx
    have h9 := (rowS_iff.1 (hm.2.2.2.2 i hi).1).2.2.2
    rwa [qth_at _ _ hi] at h9
  obtain ⟨⟨RQ, FQ⟩, hRQ⟩ : ∃ S, wantQ ak rows lst = S := ⟨_, rfl⟩
  have hWI : WantI ak (RQ, FQ) := by rw [← hRQ]; exact WantI.want (GoodQ.sort hm.2.2.2.2) hm.2.2.2.1 htr lst
  have hrl : RQ.length ≤ 64 := hWI.l1
  have hdl : FQ.length ≤ 64 := Nat.le_trans hWI.l2 hWI.l1
  obtain ⟨Ms, hMs⟩ : ∃ M, fL id nodes FQ = M := ⟨_, rfl⟩
  have HRQ := Lib.hid hRQ
  have HBG : Hid (BigMs Ms) := Lib.hid (by rw [← hMs]; exact fL_big id nodes _ hdl hn16)
  have HMI : Hid (∀ x ∈ Ms, MilM x) := Lib.hid (by rw [← hMs]; exact fL_mil id nodes _)
  have HML : Hid (Ms.length ≤ 1000000) := Lib.hid (by rw [← hMs]; exact fL_len id nodes _ hdl hn16)
  have HMS := Lib.hid hMs
  have HC := Lib.hid hC
  have HCN := Lib.hid hC.1
  have HK := Lib.hid hK
  have HD := Lib.hid hD
  have HL := Lib.hid hl
  have HM := Lib.hid hM
  have HN := Lib.hid hl.1
  have HW := Lib.hid hd
  obtain ⟨rn, hrn⟩ : ∃ m, RQ.length = m := ⟨_, rfl⟩
  rw [hrn] at hrl
  have HTL := Lib.hid hrn
  clear hl hM hm hd hrn hRQ hMs hdl htr hWI hC hK hD
  go_enter Try.func24, Try.ntmps24
  go_upto_region 1 with fail
  refine wp_two (fun W0 hW0 => ?_)
  have hb0 : Below w.heap.size w W0 := by rw [hW0]; (repeat (first | (with_reducible exact Below.refl _ _) | (with_reducible assumption) | (with_reducible apply bel_alloc) | (with_reducible apply bel_drew) | (with_reducible apply bel_drewN) | (with_reducible refine bel_trans ?_ (by with_reducible assumption)) | (with_reducible refine bel_trans ?_ (HF.out _)) | (with_reducible refine bel_set ?_ (by simp) _) | (with_reducible refine bel_set ?_ (by simp; omega) _) | (with_reducible refine bel_set ?_ (by omega) _)))
  have hs0 : W0.heap.size = w.heap.size + 3 := by rw [hW0]; simp
  have HB0 : Hid (Blk W0 w.heap.size 24 [.int .i64 id, .int .i64 nodes, .slice A n c] ∧ Blk W0 (w.heap.size + 1) 62 [.int .i64 dv, .int .i64 ak, .int .i64 ag, .slice C m dd] ∧ Blk W0 (w.heap.size + 2) 24 [.int .i64 0, .int .i64 0, .slice none 0 0]) := Lib.hid (by
    rw [hW0]
    have h1 : Blk (w.alloc (.cells #[.int .i64 id, .int .i64 nodes, .slice A n c] 24)) w.heap.size 24 [.int .i64 id, .int .i64 nodes, .slice A n c] := Blk.new _ 24 [.int .i64 id, .int .i64 nodes, .slice A n c]
    have h2 : Blk ((w.alloc (.cells #[.int .i64 id, .int .i64 nodes, .slice A n c] 24)).alloc (.cells #[.int .i64 dv, .int .i64 ak, .int .i64 ag, .slice C m dd] 62)) (w.heap.size + 1) 62 [.int .i64 dv, .int .i64 ak, .int .i64 ag, .slice C m dd] := by simpa using Blk.new (w.alloc (.cells #[.int .i64 id, .int .i64 nodes, .slice A n c] 24)) 62 [.int .i64 dv, .int .i64 ak, .int .i64 ag, .slice C m dd]
    have h3 : Blk (((w.alloc (.cells #[.int .i64 id, .int .i64 nodes, .slice A n c] 24)).alloc (.cells #[.int .i64 dv, .int .i64 ak, .int .i64 ag, .slice C m dd] 62)).alloc (.cells #[.int .i64 0, .int .i64 0, .slice none 0 0] 24)) (w.heap.size + 2) 24 [.int .i64 0, .int .i64 0, .slice none 0 0] := by simpa using Blk.new ((w.alloc (.cells #[.int .i64 id, .int .i64 nodes, .slice A n c] 24)).alloc (.cells #[.int .i64 dv, .int .i64 ak, .int .i64 ag, .slice C m dd] 62)) 24 [.int .i64 0, .int .i64 0, .slice none 0 0]
    exact ⟨(h1.up (bel_alloc (Below.refl _ _))).up (bel_alloc (Below.refl _ _)), h2.up (bel_alloc (Below.refl _ _)), h3⟩)
  clear hW0
  have xl := HB0.out.1.lt
  have x_0 := (HB0.out.1.box).2 0 _ rfl; have x_1 := (HB0.out.1.box).2 1 _ rfl; have x_2 := (HB0.out.1.box).2 2 _ rfl
  go_upto_region 2 with (go_at_call 21; refine (ref0_CopyFetch id nodes A n c rows _ (HL.out.up hb0) (by omega)).mono ?_; rintro e w1 ⟨v1, rfl, hown1, hb1⟩; obtain ⟨iA, ic, rfl, hri⟩ := nmQ hown1 HN.out (by omega))
  refine wp_two (fun W1 hW1 => ?_)
  obtain ⟨g6, hg6⟩ : ∃ g, g = w1.heap.size := ⟨_, rfl⟩
  have h1W : Below w1.heap.size w1 W1 := by rw [hW1]; exact bel_alloc (Below.refl _ _)
  have h01 : Below W0.heap.size W0 W1 := bel_trans hb1 h1W
  have HI1 : Hid (Blk W1 g6 24 [.int .i64 id, .int .i64 nodes, .slice iA n ic]) := Lib.hid (by rw [hW1, hg6]; exact Blk.new w1 24 [.int .i64 id, .int .i64 nodes, .slice iA n ic])
  have HRI1 : Hid (RowsR W1 iA n rows) := Lib.hid (hri.up h1W)
  have HF1 := Lib.hid (HB0.out.1.up h01)
  have HA1 := Lib.hid (HB0.out.2.1.up h01)
  have HR1 := Lib.hid (HB0.out.2.2.up h01)
  have hbw1 := bel_trans hb0 h01
  have hg60 : w.heap.size + 3 ≤ g6 := by rw [hg6]; have := hb1.size; omega
  rw [← hg6]
  have HIO : Hid (∀ g, (Value.slice iA n ic).ownBlock = some g → g < g6) := Lib.hid (fun g e => by rw [hg6]; exact (own_lt hown1 g e).2)
  have HO1 : Hid (OwnQ W1 (w.heap.size + 3) (.slice iA n ic) rows) := Lib.hid ((hown1.mono (by omega)).up h1W)
  clear hW1 hg6 hown1 hri hb1 h1W h01 HB0 hb0 hs0 xl x_0 x_1 x_2
  have xl := HF1.out.lt
  have x_0 := (HF1.out.box).2 0 _ rfl; have x_1 := (HF1.out.box).2 1 _ rfl; have x_2 := (HF1.out.box).2 2 _ rfl
  go_upto_region 3 with (go_at_call 22; refine (ref21_May id nodes rows A n c true _ (HL.out.up hbw1) HM.out).mono ?_; rintro e w2 ⟨rfl, hb2⟩)
  clear xl x_0 x_1 x_2
  go_upto_region 7 with fail
  refine wp_two (fun W2 hW2 => ?_)
  obtain ⟨g8, hg8⟩ : ∃ g, g = w2.heap.size := ⟨_, rfl⟩
  have h2W : Below w2.heap.size w2 W2 := by rw [hW2]; (repeat (first | (with_reducible exact Below.refl _ _) | (with_reducible assumption) | (with_reducible apply bel_alloc) | (with_reducible apply bel_drew) | (with_reducible apply bel_drewN) | (with_reducible refine bel_trans ?_ (by with_reducible assumption)) | (with_reducible refine bel_trans ?_ (HF.out _)) | (with_reducible refine bel_set ?_ (by simp) _) | (with_reducible refine bel_set ?_ (by simp; omega) _) | (with_reducible refine bel_set ?_ (by omega) _)))
  have HW2 : Hid (Blk W2 g8 24 [.int .i64 0, .int .i64 0, .slice none 0 0]) := Lib.hid (by rw [hW2, hg8]; exact (Blk.new w2 24 [.int .i64 0, .int .i64 0, .slice none 0 0]).up (bel_alloc (Below.refl _ _)))
  have HX2 : Hid (Blk W2 (g8 + 1) 24 [.int .i64 0, .int .i64 0, .slice none 0 0]) := Lib.hid (by rw [hW2, hg8]; simpa using Blk.new (w2.alloc (.cells #[.int .i64 0, .int .i64 0, .slice none 0 0] 24)) 24 [.int .i64 0, .int .i64 0, .slice none 0 0])
  have hg86 : g6 < g8 := by rw [hg8]; exact Nat.lt_of_lt_of_le HI1.out.lt hb2.size
  have h12 : Below W1.heap.size W1 W2 := bel_trans hb2 h2W
  have HF2 := Lib.hid (HF1.out.up h12)
  have HA2 := Lib.hid (HA1.out.up h12)
  have HI2 := Lib.hid (HI1.out.up h12)
  have HO2 := Lib.hid (HO1.out.up h12)
  have HR2 := Lib.hid (HR1.out.up h12)
  have hbw2 := bel_trans hbw1 h12
  rw [← hg8]
  clear hW2 hg8 h2W h12 hb2 HF1 HA1 HI1 HRI1 HO1 HR1 hbw1
  have xl := HF2.out.lt
  have x_0 := (HF2.out.box).2 0 _ rfl; have x_1 := (HF2.out.box).2 1 _ rfl; have x_2 := (HF2.out.box).2 2 _ rfl
  have al := HA2.out.lt
  have a_0 := (HA2.out.box).2 0 _ rfl; have a_1 := (HA2.out.box).2 1 _ rfl; have a_2 := (HA2.out.box).2 2 _ rfl; have a_3 := (HA2.out.box).2 3 _ rfl
  have wl := HW2.out.lt
  have wf := HW2.out.frozen
  have q_0 := (HW2.out.box).2 0 _ rfl; have q_1 := (HW2.out.box).2 1 _ rfl; have q_2 := (HW2.out.box).2 2 _ rfl
  have hr3 : (r == 3) = false := by simpa using hr.1
  have hr4 : (r == 4) = false := by simpa using hr.2.1
  have hr5 : (r == 5) = false := by simpa using hr.2.2
  go_upto_region 9 with (first | (go_at_call 16; refine (law0_Within dv 6 r _ (by omega) (by omega) HW.out).mono ?_; rintro e w' ⟨rfl, rfl⟩) | (go_at_call 50; refine (ref21_Kind _ _ _ HK.out).mono ?_; rintro e w' ⟨rfl, rfl⟩) | (go_at_call 51; refine (refd_Digests _ _ _ _ _ _ (HC.out.up hbw2) HD.out).mono ?_; rintro e w' ⟨rfl, rfl⟩))
  go_upto_region 10 with (go_at_call 52; refine (ref21_Want id nodes ak A n c rows C m dd lst _ (HL.out.up hbw2) (HC.out.up hbw2) HM.out (by omega)).mono ?_; rintro e w3 ⟨vr, vl, rfl, hown3, hm3, hb3⟩; rw [HRQ.out] at hown3 hm3; (have hm3 : OwnMs w3 (W2.heap.size + 2) vl Ms := by rw [← HMS.out]; exact hm3); (have hown3 : OwnQ w3 (W2.heap.size + 2) vr RQ := hown3); obtain ⟨wA, wc, rfl, -⟩ := nmQ hown3 HTL.out (by omega); clear xl x_0 x_1 x_2 al a_0 a_1 a_2 a_3 wl wf q_0 q_1 q_2; have hq3 := HW2.out.up hb3; have wl := hq3.lt; have wf := hq3.frozen; have q_0 := (hq3.box).2 0 _ rfl; have q_1 := (hq3.box).2 1 _ rfl; have q_2 := (hq3.box).2 2 _ rfl; clear hq3)
  clear wl wf q_0 q_1 q_2 hr3 hr4 hr5
  refine wp_two (fun W3 hW3 => ?_)
  have hbw3 : Below w.heap.size w w3 := bel_trans hbw2 hb3
  have hgs : g8 + 2 ≤ W2.heap.size := HX2.out.lt
  have HW3 : Hid (Blk W3 g8 24 [.int .i64 id, .int .i64 nodes, .slice wA rn wc]) := Lib.hid (by rw [hW3]; exact (HW2.out.up hb3).put3 _ _ _)
  have HX3 : Hid (Blk W3 (g8 + 1) 24 [.int .i64 0, .int .i64 0, .slice none 0 0]) := Lib.hid (by rw [hW3]; exact (HX2.out.up hb3).far3 (by omega) _ _ _)
  have HF3 : Hid (Blk W3 w.heap.size 24 [.int .i64 id, .int .i64 nodes, .slice A n c]) := Lib.hid (by rw [hW3]; exact (HF2.out.up hb3).far3 (by omega) _ _ _)
  have HI3 : Hid (Blk W3 g6 24 [.int .i64 id, .int .i64 nodes, .slice iA n ic]) := Lib.hid (by rw [hW3]; exact (HI2.out.up hb3).far3 (by omega) _ _ _)
  have HR3 : Hid (Blk W3 (w.heap.size + 2) 24 [.int .i64 0, .int .i64 0, .slice none 0 0]) := Lib.hid (by rw [hW3]; exact (HR2.out.up hb3).far3 (by omega) _ _ _)
  have hne8 : (Value.slice iA n ic).ownBlock ≠ some g8 := fun e => by have := HIO.out _ e; omega
  have HO3 : Hid (OwnQ W3 (w.heap.size + 3) (.slice iA n ic) rows) := Lib.hid (by rw [hW3]; exact (((HO2.out.up hb3).setAp hne8).setAp hne8).setAp hne8)
  have HQ3 : Hid (OwnQ W3 (W2.heap.size + 2) (.slice wA rn wc) RQ) := Lib.hid (by rw [hW3]; exact ((hown3.set3 (by omega) _).set3 (by omega) _).set3 (by omega) _)
  have HM3 : Hid (OwnMs W3 (W2.heap.size + 2) vl Ms) := Lib.hid (by rw [hW3]; exact ((hm3.low (by omega)).low (by omega)).low (by omega))
  have hbW3 : Below w.heap.size w W3 := by rw [hW3]; exact bel_set3 (bel_set3 (bel_set3 hbw3 (by omega)) (by omega)) (by omega)
  have HA3 : Hid (Blk W3 (w.heap.size + 1) 62 [.int .i64 dv, .int .i64 ak, .int .i64 ag, .slice C m dd]) := Lib.hid (by rw [hW3]; exact (HA2.out.up hb3).far3 (by omega) _ _ _)
  have HWO : Hid (∀ g, (Value.slice wA rn wc).ownBlock = some g → g < W3.heap.size) := Lib.hid (fun g e => (own_lt HQ3.out g e).2)
  clear hW3 hown3 hm3 hbw3 HF2 HA2 HI2 HO2 HR2 HW2 HX2 hne8
  go_upto_region 11 with fail
  obtain ⟨S, hSd⟩ : ∃ S : World → Prop, S = fun Q => Q.rangeAt g6 0 [.int .i64 id, .int .i64 nodes, .slice iA n ic] ∧ Q.rangeAt (w.heap.size + 1) 0 [.int .i64 dv, .int .i64 ak, .int .i64 ag, .slice C m dd] := ⟨_, rfl⟩
  have hS1 : ∀ Q, S Q → Q.rangeAt g6 0 [.int .i64 id, .int .i64 nodes, .slice iA n ic] := fun Q h => by rw [hSd] at h; exact h.1
  have hS2 : ∀ Q, S Q → Q.cell? ⟨w.heap.size + 1, 1, none⟩ = some (.int .i64 ak) := fun Q h => by rw [hSd] at h; exact h.2 1 _ rfl
  have hS3 : ∀ Q, S Q → Q.cell? ⟨w.heap.size + 1, 3, none⟩ = some (.slice C m dd) := fun Q h => by rw [hSd] at h; exact h.2 3 _ rfl
  have hS : ∀ Q, Blk Q g6 24 [.int .i64 id, .int .i64 nodes, .slice iA n ic] → Blk Q (w.heap.size + 1) 62 [.int .i64 dv, .int .i64 ak, .int .i64 ag, .slice C m dd] → S Q := fun Q h1 h2 => by rw [hSd]; exact ⟨Blk.rngQ h1, Blk.rngQ h2⟩
  clear hSd
  have hbd : Below W3.heap.size W3 W3.drew := bel_drew (Below.refl _ _)
  refine wp_region_held_drew (S := S) (by kernel_rfl) (hS _ (HI3.out.up hbd) (HA3.out.up hbd)) (fun hHeld => ?_)
  generalize W3.drew = Z at *
  refine wpAnyH_takeD (i := 0) (d := (some 44)) (v := .agg ([.int .i64 id, .int .i64 nodes, .slice iA n ic]).toArray) rfl rfl (by kernel_rfl) (by kernel_rfl) (by kernel_rfl) (fun _ _ _ h => h) (yieldsIf_load_mid (by rfl) 24 _ rfl g6 0 (by simp [Act.eval, Act.put]) ([.int .i64 id, .int .i64 nodes, .slice iA n ic]) _ (hS1) Try.underlying24 (by rfl) (by kernel_rfl)) (by assumption) ?_
  simp only [Act.put, List.setIfInBounds_toArray, List.set_cons_zero, List.set_cons_succ]
  (refine wpAnyH_tk 1 (some 45) (v := ?_) rfl rfl ?_ ?_; rotate_left; (focus (intro wq hSw; clear hSw; go_simp; all_goals (with_reducible rfl))); simp only [Act.put, List.setIfInBounds_toArray, List.set_cons_zero, List.set_cons_succ])
  (refine wpAnyH_tk 2 (some 46) (v := ?_) rfl rfl ?_ ?_; rotate_left; (focus (intro wq hSw; have q1 := hS2 wq hSw; clear hSw; go_simp; all_goals (with_reducible rfl))); simp only [Act.put, List.setIfInBounds_toArray, List.set_cons_zero, List.set_cons_succ])
  (refine wpAnyH_tk 3 (some 47) (v := ?_) rfl rfl ?_ ?_; rotate_left; (focus (intro wq hSw; clear hSw; go_simp; all_goals (with_reducible rfl))); simp only [Act.put, List.setIfInBounds_toArray, List.set_cons_zero, List.set_cons_succ])
  (refine wpAnyH_tk 4 (some 48) (v := ?_) rfl rfl ?_ ?_; rotate_left; (focus (intro wq hSw; have q1 := hS3 wq hSw; clear hSw; go_simp; all_goals (with_reducible rfl))); simp only [Act.put, List.setIfInBounds_toArray, List.set_cons_zero, List.set_cons_succ])
  refine wpAnyH_ready (rs := [5]) (by kernel_rfl) (by simp) ?_
  refine AllReadyH.cons (o := _) rfl (fun K hK => ?_) AllReadyH.nil
  go_simp
  (go_at_call 53; refine (ref0_CopyNumbers C m dd lst _ (HC.out.up (bel_trans hbW3 hbd)) (by omega)).mono ?_; rintro e w5 ⟨v5, rfl, ho5, hb5⟩)
  obtain ⟨lA, lc, rfl, hli⟩ := nmI ho5 HCN.out (by omega)
  have hbb := bel_trans hbd hb5
  have HLI := Lib.hid hli
  have hs35 := hbb.size
  clear hli ho5
  refine hK.out _ _ (hS _ (HI3.out.up hbb) (HA3.out.up hbb)) (fun hHeld => ?_)
  clear hK K
  (try simp only [Act.put, List.setIfInBounds_toArray, List.set_cons_zero, List.set_cons_succ])
  refine wpAnyH_ready (rs := [6]) (by kernel_rfl) (by simp) ?_
  refine AllReadyH.cons (o := _) rfl (fun K hK => ?_) AllReadyH.nil
  go_simp
  (go_at_call 10; refine (fetch_Want_ok id nodes ak iA n ic rows lA m lc lst _ (OwnQ.rowsR (HO3.out.up hbb) HN.out (by omega)) HLI.out HM.out HK.out HD.out (by omega)).mono ?_; rintro e w4 ⟨vr4, vl4, rfl, hown4, hm4, hb6⟩)
  rw [HRQ.out] at hown4 hm4
  have hm4 : OwnMs w4 (w5.heap.size + 2) vl4 Ms := by rw [← HMS.out]; exact hm4
  have hown4 : OwnQ w4 (w5.heap.size + 2) vr4 RQ := hown4
  obtain ⟨xA, xc, rfl, -⟩ := nmQ hown4 HTL.out (by omega)
  have hown4 := hown4.mono (B' := W3.heap.size + 2) (by omega)
  have hm4 := hm4.mono (B' := W3.heap.size + 2) (by omega)
  have hb4 := bel_trans hbb hb6
  refine hK.out _ _ (hS _ (HI3.out.up hb4) (HA3.out.up hb4)) (fun hHeld => ?_)
  clear hK K
  (try simp only [Act.put, List.setIfInBounds_toArray, List.set_cons_zero, List.set_cons_succ])
  (refine wpAnyH_tk 7 (some 43) (v := ?_) rfl rfl ?_ ?_; rotate_left; (focus (intro wq hSw; clear hSw; go_simp; all_goals (with_reducible rfl))); simp only [Act.put, List.setIfInBounds_toArray, List.set_cons_zero, List.set_cons_succ])
  (refine wpAnyH_tk 8 (some 51) (v := ?_) rfl rfl ?_ ?_; rotate_left; (focus (intro wq hSw; clear hSw; go_simp; all_goals (with_reducible rfl))); simp only [Act.put, List.setIfInBounds_toArray, List.set_cons_zero, List.set_cons_succ])
  (refine wpAnyH_tk 9 (some 52) (v := ?_) rfl rfl ?_ ?_; rotate_left; (focus (intro wq hSw; clear hSw; go_simp; all_goals (with_reducible rfl))); simp only [Act.put, List.setIfInBounds_toArray, List.set_cons_zero, List.set_cons_succ])
  (refine wpAnyH_tk 10 (some 53) (v := ?_) rfl rfl ?_ ?_; rotate_left; (focus (intro wq hSw; clear hSw; go_simp; all_goals (with_reducible rfl))); simp only [Act.put, List.setIfInBounds_toArray, List.set_cons_zero, List.set_cons_succ])
  refine wpAnyH_ready (rs := [11]) (by kernel_rfl) (by simp) ?_
  refine AllReadyH.cons (o := _) rfl (fun K hK => ?_) AllReadyH.nil
  have hy4 := HX3.out.up hb4
  have yl := hy4.lt
  have yf := hy4.frozen
  have y_0 := (hy4.box).2 0 _ rfl; have y_1 := (hy4.box).2 1 _ rfl; have y_2 := (hy4.box).2 2 _ rfl
  go_simp
  clear hy4 yl yf y_0 y_1 y_2
  refine hK.out _ _ (hS _ ((HI3.out.up hb4).far3 (b := g8 + 1) (by omega) _ _ _) ((HA3.out.up hb4).far3 (b := g8 + 1) (by omega) _ _ _)) (fun hHeld => ?_)
  clear hK K
  (try simp only [Act.put, List.setIfInBounds_toArray, List.set_cons_zero, List.set_cons_succ])
  (refine wpAnyH_tk 12 (some 12) (v := ?_) rfl rfl ?_ ?_; rotate_left; (focus (intro wq hSw; clear hSw; go_simp; all_goals (with_reducible rfl))); simp only [Act.put, List.setIfInBounds_toArray, List.set_cons_zero, List.set_cons_succ])
  (refine wpAnyH_tk 13 (some 13) (v := ?_) rfl rfl ?_ ?_; rotate_left; (focus (intro wq hSw; clear hSw; go_simp; all_goals (with_reducible rfl))); simp only [Act.put, List.setIfInBounds_toArray, List.set_cons_zero, List.set_cons_succ])
  refine wpAnyH_done (by kernel_rfl) ?_ _
  go_upto_region 24 with fail
  refine wp_two (fun W4 hW4 => ?_)
  have hs3 : g8 + 2 ≤ W3.heap.size := HX3.out.lt
  have hs36 : g6 < W3.heap.size := HI3.out.lt
  have hs30 : w.heap.size + 2 < W3.heap.size := HR3.out.lt
  have HX4 : Hid (Blk W4 (g8 + 1) 24 [.int .i64 id, .int .i64 nodes, .slice xA rn xc]) := Lib.hid (by rw [hW4]; exact (HX3.out.up hb4).put3 _ _ _)
  have HW4 : Hid (Blk W4 g8 24 [.int .i64 id, .int .i64 nodes, .slice wA rn wc]) := Lib.hid (by rw [hW4]; exact (HW3.out.up hb4).far3 (by omega) _ _ _)
  have HF4 : Hid (Blk W4 w.heap.size 24 [.int .i64 id, .int .i64 nodes, .slice A n c]) := Lib.hid (by rw [hW4]; exact (HF3.out.up hb4).far3 (by omega) _ _ _)
  have HI4 : Hid (Blk W4 g6 24 [.int .i64 id, .int .i64 nodes, .slice iA n ic]) := Lib.hid (by rw [hW4]; exact (HI3.out.up hb4).far3 (by omega) _ _ _)
  have HR4 : Hid (Blk W4 (w.heap.size + 2) 24 [.int .i64 0, .int .i64 0, .slice none 0 0]) := Lib.hid (by rw [hW4]; exact (HR3.out.up hb4).far3 (by omega) _ _ _)
  have hne8 : (Value.slice iA n ic).ownBlock ≠ some (g8 + 1) := fun e => by have := HIO.out _ e; omega
  have HO4 : Hid (OwnQ W4 (w.heap.size + 3) (.slice iA n ic) rows) := Lib.hid (by rw [hW4]; exact (((HO3.out.up hb4).setAp hne8).setAp hne8).setAp hne8)
  have HQ4 : Hid (OwnQ W4 (W2.heap.size + 2) (.slice wA rn wc) RQ) := Lib.hid (by rw [hW4]; exact (((HQ3.out.up hb4).set3 (by omega) _).set3 (by omega) _).set3 (by omega) _)
  have HM4 : Hid (OwnMs W4 (W2.heap.size + 2) vl Ms) := Lib.hid (by rw [hW4]; exact (((HM3.out.up hb4).low (by omega)).low (by omega)).low (by omega))
  have HXQ4 : Hid (OwnQ W4 (W3.heap.size + 2) (.slice xA rn xc) RQ) := Lib.hid (by rw [hW4]; exact ((hown4.set3 (by omega) _).set3 (by omega) _).set3 (by omega) _)
  have HXM4 : Hid (OwnMs W4 (W3.heap.size + 2) vl4 Ms) := Lib.hid (by rw [hW4]; exact ((hm4.low (by omega)).low (by omega)).low (by omega))
  have hbW4 : Below w.heap.size w W4 := by rw [hW4]; exact bel_set3 (bel_set3 (bel_set3 (bel_trans hbW3 hb4) (by omega)) (by omega)) (by omega)
  have HS34 : Hid (W3.heap.size ≤ W4.heap.size) := Lib.hid (by rw [hW4]; simpa using hb4.size)
  clear hW4 hown4 hm4 HX3 HW3 HF3 HI3 HR3 hne8 HO3 HQ3 HM3
  have hbig := HBG.out
  obtain ⟨mA, mc, rfl, hmr, -, -⟩ := HM4.out.msgs hbig
  obtain ⟨nA, nc, rfl, hnr, -, -⟩ := HXM4.out.msgs hbig
  have HMR := Lib.hid hmr
  have HNR := Lib.hid hnr
  have HRX : Hid (OwnMs W4 W3.heap.size (SlP.v ⟨nA, _, nc⟩) Ms) := Lib.hid (HXM4.out.mono (by omega))
  clear hmr hnr hbig
  have il := HI4.out.lt
  have i_0 := (HI4.out.box).2 0 _ rfl; have i_1 := (HI4.out.box).2 1 _ rfl; have i_2 := (HI4.out.box).2 2 _ rfl
  have yl := HX4.out.lt
  have y_0 := (HX4.out.box).2 0 _ rfl; have y_1 := (HX4.out.box).2 1 _ rfl; have y_2 := (HX4.out.box).2 2 _ rfl
  have wl := HW4.out.lt
  have q_0 := (HW4.out.box).2 0 _ rfl; have q_1 := (HW4.out.box).2 1 _ rfl; have q_2 := (HW4.out.box).2 2 _ rfl
  have xl := HF4.out.lt
  have x_0 := (HF4.out.box).2 0 _ rfl; have x_1 := (HF4.out.box).2 1 _ rfl; have x_2 := (HF4.out.box).2 2 _ rfl
  go_upto_region 25 with (first
    | (go_at_call 11; refine (law21_num _ _).mono ?_; rintro e w' ⟨rfl, rfl⟩)
    | (go_at_call 13; refine (ref0_EqFetch id nodes iA n ic A n c rows _ ((by obtain ⟨A', c', e', h'⟩ := nmQ HO4.out HN.out (by omega); injection e' with e1 e2 e3; subst e1; exact h' : RowsR W4 iA n rows).up hb6) (HL.out.up (bel_trans hbW4 hb6))).mono ?_; rintro e w7 ⟨rfl, hb7⟩; have hb47 := bel_trans hb6 hb7; clear il i_0 i_1 i_2 xl x_0 x_1 x_2; have hX7 := HX4.out.up hb47; have yl := hX7.lt; have y_0 := (hX7.box).2 0 _ rfl; have y_1 := (hX7.box).2 1 _ rfl; have y_2 := (hX7.box).2 2 _ rfl; clear hX7)
    | (go_at_call 13; refine (ref0_EqFetch id nodes xA rn xc wA rn wc RQ _ (by obtain ⟨A', c', e', h'⟩ := nmQ HXQ4.out HTL.out (by omega); injection e' with e1 e2 e3; subst e1; exact h') (by obtain ⟨A', c', e', h'⟩ := nmQ HQ4.out HTL.out (by omega); injection e' with e1 e2 e3; subst e1; exact h')).mono ?_; rintro e w5 ⟨rfl, hb5⟩; clear il i_0 i_1 i_2 yl y_0 y_1 y_2 wl q_0 q_1 q_2 xl x_0 x_1 x_2; have hI5 := HI4.out.up hb5; have il := hI5.lt; have i_0 := (hI5.box).2 0 _ rfl; have i_1 := (hI5.box).2 1 _ rfl; have i_2 := (hI5.box).2 2 _ rfl; clear hI5; have hF5 := HF4.out.up hb5; have xl := hF5.lt; have x_0 := (hF5.box).2 0 _ rfl; have x_1 := (hF5.box).2 1 _ rfl; have x_2 := (hF5.box).2 2 _ rfl; clear hF5)
    | (go_at_call 54; refine (ref0_EqMessages _ _ _ _ _ _ _ _ (HNR.out.up hb5) (HMR.out.up hb5)).mono ?_; rintro e w6 ⟨rfl, hb65⟩; have hb6 := bel_trans hb5 hb65; clear il i_0 i_1 i_2 xl x_0 x_1 x_2; have hI6 := HI4.out.up hb6; have il := hI6.lt; have i_0 := (hI6.box).2 0 _ rfl; have i_1 := (hI6.box).2 1 _ rfl; have i_2 := (hI6.box).2 2 _ rfl; clear hI6; have hF6 := HF4.out.up hb6; have xl := hF6.lt; have x_0 := (hF6.box).2 0 _ rfl; have x_1 := (hF6.box).2 1 _ rfl; have x_2 := (hF6.box).2 2 _ rfl; clear hF6))
  have hbs4 := hb47.size
  have hs34 : W3.heap.size ≤ W4.heap.size := HS34.out
  go_upto_region 26 with (go_at_call 55; refine (law0_RowsS ⟨xA, rn, xc⟩ W3.heap.size _ ((own_rowT (s := ⟨xA, rn, xc⟩) (HXQ4.out.up hb47)).mono (by omega)) (by show rn ≤ 1000000; omega) (by omega)).mono ?_; rintro e w8 ⟨rfl, hb8, hk8⟩)
  clear yl y_0 y_1 y_2
  have hbs8 := hb8.size
  go_upto_region 27 with (go_at_call 56; refine (law0_MessagesS ⟨nA, _, nc⟩ W3.heap.size _ (RowM.keep (msX_rowM HRX.out hb47 HMI.out) hk8 (by decide)) (by exact HML.out) (by omega)).mono ?_; rintro e w9 ⟨rfl, hb9, hk9⟩)
  have HW9 : Hid (Blk w9 g8 24 [.int .i64 id, .int .i64 nodes, .slice wA rn wc]) := Lib.hid (((HW4.out.up hb47).below hb8 (by omega)).below hb9 (by omega))
  have HF9 : Hid (Blk w9 w.heap.size 24 [.int .i64 id, .int .i64 nodes, .slice A n c]) := Lib.hid (((HF4.out.up hb47).below hb8 (by omega)).below hb9 (by omega))
  have HI9 : Hid (Blk w9 g6 24 [.int .i64 id, .int .i64 nodes, .slice iA n ic]) := Lib.hid (((HI4.out.up hb47).below hb8 (by omega)).below hb9 (by omega))
  have HR9 : Hid (Blk w9 (w.heap.size + 2) 24 [.int .i64 0, .int .i64 0, .slice none 0 0]) := Lib.hid (((HR4.out.up hb47).below hb8 (by omega)).below hb9 (by omega))
  have HO9 : Hid (OwnQ w9 (w.heap.size + 3) (.slice iA n ic) rows) := Lib.hid (own_of_heap (HO4.out.up hb47) (fun g hg => by have := HIO.out g hg; rw [hb9.block g (by omega), hb8.block g (by omega)]))
  have HQ9 : Hid (OwnQ w9 (w.heap.size + 3) (.slice wA rn wc) RQ) := Lib.hid (own_mono (own_of_heap (HQ4.out.up hb47) (fun g hg => by have := HWO.out g hg; rw [hb9.block g (by omega), hb8.block g (by omega)])) (by omega))
  have hbw9 : Below w.heap.size w w9 := ((bel_trans hbW4 hb47).trans (hb8.mono (by omega))).trans (hb9.mono (by omega))
  clear HW4 HF4 HI4 HR4 HO4 HX4 HQ4 HXQ4 HXM4
  go_upto_region 29 with fail
  obtain ⟨S, hSd⟩ : ∃ S : World → Prop, S = fun Q => Q.rangeAt g8 0 [.int .i64 id, .int .i64 nodes, .slice wA rn wc] ∧ Q.rangeAt g6 0 [.int .i64 id, .int .i64 nodes, .slice iA n ic] ∧ Q.rangeAt w.heap.size 0 [.int .i64 id, .int .i64 nodes, .slice A n c] := ⟨_, rfl⟩
  have hS1 : ∀ Q, S Q → Q.rangeAt g8 0 [.int .i64 id, .int .i64 nodes, .slice wA rn wc] := fun Q h => by rw [hSd] at h; exact h.1
  have hS2 : ∀ Q, S Q → Q.rangeAt g6 0 [.int .i64 id, .int .i64 nodes, .slice iA n ic] := fun Q h => by rw [hSd] at h; exact h.2.1
  have hS3 : ∀ Q, S Q → Q.rangeAt w.heap.size 0 [.int .i64 id, .int .i64 nodes, .slice A n c] := fun Q h => by rw [hSd] at h; exact h.2.2
  have hS : ∀ Q, Blk Q g8 24 [.int .i64 id, .int .i64 nodes, .slice wA rn wc] → Blk Q g6 24 [.int .i64 id, .int .i64 nodes, .slice iA n ic] → Blk Q w.heap.size 24 [.int .i64 id, .int .i64 nodes, .slice A n c] → S Q := fun Q h1 h2 h3 => by rw [hSd]; exact ⟨Blk.rngQ h1, Blk.rngQ h2, Blk.rngQ h3⟩
  clear hSd
  have hbd : Below w9.heap.size w9 w9.drew := bel_drew (Below.refl _ _)
  refine wp_region_held_drew (S := S) (by kernel_rfl) (hS _ (HW9.out.up hbd) (HI9.out.up hbd) (HF9.out.up hbd)) (fun hHeld => ?_)
  generalize w9.drew = Z at *
  refine wpAnyH_takeD (i := 0) (d := (some 126)) (v := .agg ([.int .i64 id, .int .i64 nodes, .slice wA rn wc]).toArray) rfl rfl (by kernel_rfl) (by kernel_rfl) (by kernel_rfl) (fun _ _ _ h => h) (yieldsIf_load_mid (by rfl) 24 _ rfl g8 0 (by simp [Act.eval, Act.put]) ([.int .i64 id, .int .i64 nodes, .slice wA rn wc]) _ (hS1) Try.underlying24 (by rfl) (by kernel_rfl)) (by assumption) ?_
  simp only [Act.put, List.setIfInBounds_toArray, List.set_cons_zero, List.set_cons_succ]
  (refine wpAnyH_tk 1 (some 127) (v := ?_) rfl rfl ?_ ?_; rotate_left; (focus (intro wq hSw; clear hSw; go_simp; all_goals (with_reducible rfl))); simp only [Act.put, List.setIfInBounds_toArray, List.set_cons_zero, List.set_cons_succ])
  (refine wpAnyH_tk 2 (some 128) (v := ?_) rfl rfl ?_ ?_; rotate_left; (focus (intro wq hSw; clear hSw; go_simp; all_goals (with_reducible rfl))); simp only [Act.put, List.setIfInBounds_toArray, List.set_cons_zero, List.set_cons_succ])
  refine wpAnyH_takeD (i := 3) (d := (some 129)) (v := .agg ([.int .i64 id, .int .i64 nodes, .slice iA n ic]).toArray) rfl rfl (by kernel_rfl) (by kernel_rfl) (by kernel_rfl) (fun _ _ _ h => h) (yieldsIf_load_mid (by rfl) 24 _ rfl g6 0 (by simp [Act.eval, Act.put]) ([.int .i64 id, .int .i64 nodes, .slice iA n ic]) _ (hS2) Try.underlying24 (by rfl) (by kernel_rfl)) (by assumption) ?_
  simp only [Act.put, List.setIfInBounds_toArray, List.set_cons_zero, List.set_cons_succ]
  refine wpAnyH_takeD (i := 4) (d := (some 130)) (v := .agg ([.int .i64 id, .int .i64 nodes, .slice A n c]).toArray) rfl rfl (by kernel_rfl) (by kernel_rfl) (by kernel_rfl) (fun _ _ _ h => h) (yieldsIf_load_mid (by rfl) 24 _ rfl w.heap.size 0 (by simp [Act.eval, Act.put]) ([.int .i64 id, .int .i64 nodes, .slice A n c]) _ (hS3) Try.underlying24 (by rfl) (by kernel_rfl)) (by assumption) ?_
  simp only [Act.put, List.setIfInBounds_toArray, List.set_cons_zero, List.set_cons_succ]
  refine wpAnyH_ready (rs := [5]) (by kernel_rfl) (by simp) ?_
  refine AllReadyH.cons (o := _) rfl (fun K hK => ?_) AllReadyH.nil
  go_simp
  (go_at_call 13; refine (ref0_EqFetch id nodes iA n ic A n c rows _ (by obtain ⟨A', c', e', h'⟩ := nmQ (HO9.out.up hbd) HN.out (by omega); injection e' with e1 e2 e3; subst e1; exact h') (HL.out.up (bel_trans hbw9 hbd))).mono ?_; rintro e wE ⟨rfl, hbE⟩)
  have hbb := bel_trans hbd hbE
  refine hK.out _ _ (hS _ (HW9.out.up hbb) (HI9.out.up hbb) (HF9.out.up hbb)) (fun hHeld => ?_)
  clear hK K
  (try simp only [Act.put, List.setIfInBounds_toArray, List.set_cons_zero, List.set_cons_succ])
  (refine wpAnyH_tk 6 (some 132) (v := ?_) rfl rfl ?_ ?_; rotate_left; (focus (intro wq hSw; clear hSw; go_simp; all_goals (with_reducible rfl))); simp only [Act.put, List.setIfInBounds_toArray, List.set_cons_zero, List.set_cons_succ])
  refine wpAnyH_ready (rs := [7]) (by kernel_rfl) (by simp) ?_
  refine AllReadyH.cons (o := _) rfl (fun K hK => ?_) AllReadyH.nil
  have hG5 := HR9.out.up hbb
  have gl := hG5.lt
  have gf := hG5.frozen
  have g_0 := (hG5.box).2 0 _ rfl; have g_1 := (hG5.box).2 1 _ rfl; have g_2 := (hG5.box).2 2 _ rfl
  go_simp
  clear gl gf g_0 g_1 g_2
  refine hK.out _ _ (hS _ ((HW9.out.up hbb).far3 (b := w.heap.size + 2) (by omega) _ _ _) ((HI9.out.up hbb).far3 (b := w.heap.size + 2) (by omega) _ _ _) ((HF9.out.up hbb).far3 (b := w.heap.size + 2) (by omega) _ _ _)) (fun hHeld => ?_)
  clear hK K
  (try simp only [Act.put, List.setIfInBounds_toArray, List.set_cons_zero, List.set_cons_succ])
  (refine wpAnyH_tk 8 (some 5) (v := ?_) rfl rfl ?_ ?_; rotate_left; (focus (intro wq hSw; clear hSw; go_simp; all_goals (with_reducible rfl))); simp only [Act.put, List.setIfInBounds_toArray, List.set_cons_zero, List.set_cons_succ])
  refine wpAnyH_done (by kernel_rfl) ?_ _
  have hG6 := hG5.put3 (.int .i64 id) (.int .i64 nodes) (.slice wA rn wc)
  have gl := hG6.lt
  have g_0 := (hG6.box).2 0 _ rfl; have g_1 := (hG6.box).2 1 _ rfl; have g_2 := (hG6.box).2 2 _ rfl
  go_wp2_with fail
  refine bodyPost_ret (v := .tuple #[.agg #[.int .i64 id, .int .i64 nodes, .slice wA rn wc], .bool true]) (by simp [results, Try.results24, go_sem, g_0, g_1, g_2]) rfl ⟨⟨id, nodes, ⟨wA, rn, wc⟩, RQ, rfl, OwnQ.rowsR (OwnQ.set3 (OwnQ.set3 (OwnQ.set3 (HQ9.out.up hbb) (by omega) _) (by omega) _) (by omega) _) HTL.out (by show rn ≤ 9223372036854775807; omega), by show rn ≤ 1000000; omega⟩, bel_set3 (bel_set3 (bel_set3 (bel_trans hbw9 hbb) (by omega)) (by omega)) (by omega)⟩
end Go.Proofs.Ytnngeaibdnnpoaa
namespace Go.Proofs.Ytnngeaibdnnpoaa
open Go.RowKit
set_option linter.unusedSimpArgs false
set_option linter.unusedVariables false

set_option maxRecDepth 100000 in
set_option maxHeartbeats 8000000 in
theorem stepW_may (id nodes : Int) (A : Option Addr) (n c : Nat) (rows : List FRowD) (dv ak ag : Int) (C : Option Addr) (m dd : Nat) (r : Int) (hr : ¬ r = 3 ∧ ¬ r = 4 ∧ ¬ r = 5) (lst : List Int) (w : World) (hl : RowsR w A n rows) (hM : mayF ⟨id, nodes, rows⟩ = false) (hd : wiI dv 6 = r) (hC : IntsR w C m lst) (hm2 : m ≤ 2000) (hn : n ≤ 1000000) (hb : ¬ (mayF ⟨id, nodes, rows⟩ = true ∧ kdS ak = true ∧ betS lst 1 65536 = true)) :
    Calls Try.prog 24 #[.agg #[.int .i64 id, .int .i64 nodes, .slice A n c], .agg #[.int .i64 dv, .int .i64 ak, .int .i64 ag, .slice C m dd]] w fun e w' => StepR w' e ∧ Below w.heap.size w w' := by
  have HNB : Hid (¬ (mayF ⟨id, nodes, rows⟩ = true ∧ kdS ak = true ∧ betS lst 1 65536 = true)) := Lib.hid hb
  have HC := Lib.hid hC
  have HCN := Lib.hid hC.1
  have HL := Lib.hid hl
  have HM := Lib.hid hM
  have HN := Lib.hid hl.1
  have HW := Lib.hid hd
  clear hl hM hd hC hb
  go_enter Try.func24, Try.ntmps24
  go_upto_region 1 with fail
  refine wp_two (fun W0 hW0 => ?_)
  have hb0 : Below w.heap.size w W0 := by rw [hW0]; (repeat (first | (with_reducible exact Below.refl _ _) | (with_reducible assumption) | (with_reducible apply bel_alloc) | (with_reducible apply bel_drew) | (with_reducible apply bel_drewN) | (with_reducible refine bel_trans ?_ (by with_reducible assumption)) | (with_reducible refine bel_trans ?_ (HF.out _)) | (with_reducible refine bel_set ?_ (by simp) _) | (with_reducible refine bel_set ?_ (by simp; omega) _) | (with_reducible refine bel_set ?_ (by omega) _)))
  have hs0 : W0.heap.size = w.heap.size + 3 := by rw [hW0]; simp
  have HB0 : Hid (Blk W0 w.heap.size 24 [.int .i64 id, .int .i64 nodes, .slice A n c] ∧ Blk W0 (w.heap.size + 1) 62 [.int .i64 dv, .int .i64 ak, .int .i64 ag, .slice C m dd] ∧ Blk W0 (w.heap.size + 2) 24 [.int .i64 0, .int .i64 0, .slice none 0 0]) := Lib.hid (by
    rw [hW0]
    have h1 : Blk (w.alloc (.cells #[.int .i64 id, .int .i64 nodes, .slice A n c] 24)) w.heap.size 24 [.int .i64 id, .int .i64 nodes, .slice A n c] := Blk.new _ 24 [.int .i64 id, .int .i64 nodes, .slice A n c]
    have h2 : Blk ((w.alloc (.cells #[.int .i64 id, .int .i64 nodes, .slice A n c] 24)).alloc (.cells #[.int .i64 dv, .int .i64 ak, .int .i64 ag, .slice C m dd] 62)) (w.heap.size + 1) 62 [.int .i64 dv, .int .i64 ak, .int .i64 ag, .slice C m dd] := by simpa using Blk.new (w.alloc (.cells #[.int .i64 id, .int .i64 nodes, .slice A n c] 24)) 62 [.int .i64 dv, .int .i64 ak, .int .i64 ag, .slice C m dd]
    have h3 : Blk (((w.alloc (.cells #[.int .i64 id, .int .i64 nodes, .slice A n c] 24)).alloc (.cells #[.int .i64 dv, .int .i64 ak, .int .i64 ag, .slice C m dd] 62)).alloc (.cells #[.int .i64 0, .int .i64 0, .slice none 0 0] 24)) (w.heap.size + 2) 24 [.int .i64 0, .int .i64 0, .slice none 0 0] := by simpa using Blk.new ((w.alloc (.cells #[.int .i64 id, .int .i64 nodes, .slice A n c] 24)).alloc (.cells #[.int .i64 dv, .int .i64 ak, .int .i64 ag, .slice C m dd] 62)) 24 [.int .i64 0, .int .i64 0, .slice none 0 0]
    exact ⟨(h1.up (bel_alloc (Below.refl _ _))).up (bel_alloc (Below.refl _ _)), h2.up (bel_alloc (Below.refl _ _)), h3⟩)
  clear hW0
  have xl := HB0.out.1.lt
  have x_0 := (HB0.out.1.box).2 0 _ rfl; have x_1 := (HB0.out.1.box).2 1 _ rfl; have x_2 := (HB0.out.1.box).2 2 _ rfl
  go_upto_region 2 with (go_at_call 21; refine (ref0_CopyFetch id nodes A n c rows _ (HL.out.up hb0) (by omega)).mono ?_; rintro e w1 ⟨v1, rfl, hown1, hb1⟩; obtain ⟨iA, ic, rfl, hri⟩ := nmQ hown1 HN.out (by omega))
  refine wp_two (fun W1 hW1 => ?_)
  obtain ⟨g6, hg6⟩ : ∃ g, g = w1.heap.size := ⟨_, rfl⟩
  have h1W : Below w1.heap.size w1 W1 := by rw [hW1]; exact bel_alloc (Below.refl _ _)
  have h01 : Below W0.heap.size W0 W1 := bel_trans hb1 h1W
  have HI1 : Hid (Blk W1 g6 24 [.int .i64 id, .int .i64 nodes, .slice iA n ic]) := Lib.hid (by rw [hW1, hg6]; exact Blk.new w1 24 [.int .i64 id, .int .i64 nodes, .slice iA n ic])
  have HRI1 : Hid (RowsR W1 iA n rows) := Lib.hid (hri.up h1W)
  have HF1 := Lib.hid (HB0.out.1.up h01)
  have HA1 := Lib.hid (HB0.out.2.1.up h01)
  have HR1 := Lib.hid (HB0.out.2.2.up h01)
  have hbw1 := bel_trans hb0 h01
  have hg60 : w.heap.size + 3 ≤ g6 := by rw [hg6]; have := hb1.size; omega
  rw [← hg6]
  have HIO : Hid (∀ g, (Value.slice iA n ic).ownBlock = some g → g < g6) := Lib.hid (fun g e => by rw [hg6]; exact (own_lt hown1 g e).2)
  have HO1 : Hid (OwnQ W1 (w.heap.size + 3) (.slice iA n ic) rows) := Lib.hid ((hown1.mono (by omega)).up h1W)
  clear hW1 hg6 hown1 hri hb1 h1W h01 HB0 hb0 hs0 xl x_0 x_1 x_2
  have xl := HF1.out.lt
  have x_0 := (HF1.out.box).2 0 _ rfl; have x_1 := (HF1.out.box).2 1 _ rfl; have x_2 := (HF1.out.box).2 2 _ rfl
  go_upto_region 3 with (go_at_call 22; refine (ref21_May id nodes rows A n c false _ (HL.out.up hbw1) HM.out).mono ?_; rintro e w2 ⟨rfl, hb2⟩)
  clear xl x_0 x_1 x_2
  go_upto_region 7 with fail
  refine wp_two (fun W2 hW2 => ?_)
  obtain ⟨g8, hg8⟩ : ∃ g, g = w2.heap.size := ⟨_, rfl⟩
  have h2W : Below w2.heap.size w2 W2 := by rw [hW2]; (repeat (first | (with_reducible exact Below.refl _ _) | (with_reducible assumption) | (with_reducible apply bel_alloc) | (with_reducible apply bel_drew) | (with_reducible apply bel_drewN) | (with_reducible refine bel_trans ?_ (by with_reducible assumption)) | (with_reducible refine bel_trans ?_ (HF.out _)) | (with_reducible refine bel_set ?_ (by simp) _) | (with_reducible refine bel_set ?_ (by simp; omega) _) | (with_reducible refine bel_set ?_ (by omega) _)))
  have HW2 : Hid (Blk W2 g8 24 [.int .i64 0, .int .i64 0, .slice none 0 0]) := Lib.hid (by rw [hW2, hg8]; exact (Blk.new w2 24 [.int .i64 0, .int .i64 0, .slice none 0 0]).up (bel_alloc (Below.refl _ _)))
  have HX2 : Hid (Blk W2 (g8 + 1) 24 [.int .i64 0, .int .i64 0, .slice none 0 0]) := Lib.hid (by rw [hW2, hg8]; simpa using Blk.new (w2.alloc (.cells #[.int .i64 0, .int .i64 0, .slice none 0 0] 24)) 24 [.int .i64 0, .int .i64 0, .slice none 0 0])
  have hg86 : g6 < g8 := by rw [hg8]; exact Nat.lt_of_lt_of_le HI1.out.lt hb2.size
  have h12 : Below W1.heap.size W1 W2 := bel_trans hb2 h2W
  have HF2 := Lib.hid (HF1.out.up h12)
  have HA2 := Lib.hid (HA1.out.up h12)
  have HI2 := Lib.hid (HI1.out.up h12)
  have HO2 := Lib.hid (HO1.out.up h12)
  have HR2 := Lib.hid (HR1.out.up h12)
  have hbw2 := bel_trans hbw1 h12
  rw [← hg8]
  clear hW2 hg8 h2W h12 hb2 HF1 HA1 HI1 HRI1 HO1 HR1 hbw1
  have xl := HF2.out.lt
  have x_0 := (HF2.out.box).2 0 _ rfl; have x_1 := (HF2.out.box).2 1 _ rfl; have x_2 := (HF2.out.box).2 2 _ rfl
  have al := HA2.out.lt
  have a_0 := (HA2.out.box).2 0 _ rfl; have a_1 := (HA2.out.box).2 1 _ rfl; have a_2 := (HA2.out.box).2 2 _ rfl; have a_3 := (HA2.out.box).2 3 _ rfl
  have wl := HW2.out.lt
  have wf := HW2.out.frozen
  have q_0 := (HW2.out.box).2 0 _ rfl; have q_1 := (HW2.out.box).2 1 _ rfl; have q_2 := (HW2.out.box).2 2 _ rfl
  have hr3 : (r == 3) = false := by simpa using hr.1
  have hr4 : (r == 4) = false := by simpa using hr.2.1
  have hr5 : (r == 5) = false := by simpa using hr.2.2
  have hgs : g8 + 2 ≤ W2.heap.size := HX2.out.lt
  go_upto_region 11 with (go_at_call 16; refine (law0_Within dv 6 r _ (by omega) (by omega) HW.out).mono ?_; rintro e w' ⟨rfl, rfl⟩)
  clear xl x_0 x_1 x_2 al a_0 a_1 a_2 a_3 wl wf q_0 q_1 q_2 hr3 hr4 hr5
  obtain ⟨S, hSd⟩ : ∃ S : World → Prop, S = fun Q => Q.rangeAt g6 0 [.int .i64 id, .int .i64 nodes, .slice iA n ic] ∧ Q.rangeAt (w.heap.size + 1) 0 [.int .i64 dv, .int .i64 ak, .int .i64 ag, .slice C m dd] := ⟨_, rfl⟩
  have hS1 : ∀ Q, S Q → Q.rangeAt g6 0 [.int .i64 id, .int .i64 nodes, .slice iA n ic] := fun Q h => by rw [hSd] at h; exact h.1
  have hS2 : ∀ Q, S Q → Q.cell? ⟨w.heap.size + 1, 1, none⟩ = some (.int .i64 ak) := fun Q h => by rw [hSd] at h; exact h.2 1 _ rfl
  have hS3 : ∀ Q, S Q → Q.cell? ⟨w.heap.size + 1, 3, none⟩ = some (.slice C m dd) := fun Q h => by rw [hSd] at h; exact h.2 3 _ rfl
  have hS : ∀ Q, Blk Q g6 24 [.int .i64 id, .int .i64 nodes, .slice iA n ic] → Blk Q (w.heap.size + 1) 62 [.int .i64 dv, .int .i64 ak, .int .i64 ag, .slice C m dd] → S Q := fun Q h1 h2 => by rw [hSd]; exact ⟨Blk.rngQ h1, Blk.rngQ h2⟩
  clear hSd
  have hbd : Below W2.heap.size W2 W2.drew := bel_drew (Below.refl _ _)
  refine wp_region_held_drew (S := S) (by kernel_rfl) (hS _ (HI2.out.up hbd) (HA2.out.up hbd)) (fun hHeld => ?_)
  generalize W2.drew = Z at *
  refine wpAnyH_takeD (i := 0) (d := (some 44)) (v := .agg ([.int .i64 id, .int .i64 nodes, .slice iA n ic]).toArray) rfl rfl (by kernel_rfl) (by kernel_rfl) (by kernel_rfl) (fun _ _ _ h => h) (yieldsIf_load_mid (by rfl) 24 _ rfl g6 0 (by simp [Act.eval, Act.put]) ([.int .i64 id, .int .i64 nodes, .slice iA n ic]) _ (hS1) Try.underlying24 (by rfl) (by kernel_rfl)) (by assumption) ?_
  simp only [Act.put, List.setIfInBounds_toArray, List.set_cons_zero, List.set_cons_succ]
  (refine wpAnyH_tk 1 (some 45) (v := ?_) rfl rfl ?_ ?_; rotate_left; (focus (intro wq hSw; clear hSw; go_simp; all_goals (with_reducible rfl))); simp only [Act.put, List.setIfInBounds_toArray, List.set_cons_zero, List.set_cons_succ])
  (refine wpAnyH_tk 2 (some 46) (v := ?_) rfl rfl ?_ ?_; rotate_left; (focus (intro wq hSw; have q1 := hS2 wq hSw; clear hSw; go_simp; all_goals (with_reducible rfl))); simp only [Act.put, List.setIfInBounds_toArray, List.set_cons_zero, List.set_cons_succ])
  (refine wpAnyH_tk 3 (some 47) (v := ?_) rfl rfl ?_ ?_; rotate_left; (focus (intro wq hSw; clear hSw; go_simp; all_goals (with_reducible rfl))); simp only [Act.put, List.setIfInBounds_toArray, List.set_cons_zero, List.set_cons_succ])
  (refine wpAnyH_tk 4 (some 48) (v := ?_) rfl rfl ?_ ?_; rotate_left; (focus (intro wq hSw; have q1 := hS3 wq hSw; clear hSw; go_simp; all_goals (with_reducible rfl))); simp only [Act.put, List.setIfInBounds_toArray, List.set_cons_zero, List.set_cons_succ])
  refine wpAnyH_ready (rs := [5]) (by kernel_rfl) (by simp) ?_
  refine AllReadyH.cons (o := _) rfl (fun K hK => ?_) AllReadyH.nil
  go_simp
  (go_at_call 53; refine (ref0_CopyNumbers C m dd lst _ (HC.out.up (bel_trans hbw2 hbd)) (by omega)).mono ?_; rintro e w5 ⟨v5, rfl, ho5, hb5⟩)
  obtain ⟨lA, lc, rfl, hli⟩ := nmI ho5 HCN.out (by omega)
  have hbb := bel_trans hbd hb5
  have HLI := Lib.hid hli
  have hs35 := hbb.size
  clear hli ho5
  refine hK.out _ _ (hS _ (HI2.out.up hbb) (HA2.out.up hbb)) (fun hHeld => ?_)
  clear hK K
  (try simp only [Act.put, List.setIfInBounds_toArray, List.set_cons_zero, List.set_cons_succ])
  refine wpAnyH_ready (rs := [6]) (by kernel_rfl) (by simp) ?_
  refine AllReadyH.cons (o := _) rfl (fun K hK => ?_) AllReadyH.nil
  go_simp
  (go_at_call 10; refine (fetch_Want_bad id nodes ak iA n ic rows lA m lc lst _ (OwnQ.rowsR (HO2.out.up hbb) HN.out (by omega)) HLI.out HNB.out).mono ?_; rintro e w4 ⟨rfl, hb6⟩)
  have hb4 := bel_trans hbb hb6
  refine hK.out _ _ (hS _ (HI2.out.up hb4) (HA2.out.up hb4)) (fun hHeld => ?_)
  clear hK K
  (try simp only [Act.put, List.setIfInBounds_toArray, List.set_cons_zero, List.set_cons_succ])
  (refine wpAnyH_tk 7 (some 43) (v := ?_) rfl rfl ?_ ?_; rotate_left; (focus (intro wq hSw; clear hSw; go_simp; all_goals (with_reducible rfl))); simp only [Act.put, List.setIfInBounds_toArray, List.set_cons_zero, List.set_cons_succ])
  (refine wpAnyH_tk 8 (some 51) (v := ?_) rfl rfl ?_ ?_; rotate_left; (focus (intro wq hSw; clear hSw; go_simp; all_goals (with_reducible rfl))); simp only [Act.put, List.setIfInBounds_toArray, List.set_cons_zero, List.set_cons_succ])
  (refine wpAnyH_tk 9 (some 52) (v := ?_) rfl rfl ?_ ?_; rotate_left; (focus (intro wq hSw; clear hSw; go_simp; all_goals (with_reducible rfl))); simp only [Act.put, List.setIfInBounds_toArray, List.set_cons_zero, List.set_cons_succ])
  (refine wpAnyH_tk 10 (some 53) (v := ?_) rfl rfl ?_ ?_; rotate_left; (focus (intro wq hSw; clear hSw; go_simp; all_goals (with_reducible rfl))); simp only [Act.put, List.setIfInBounds_toArray, List.set_cons_zero, List.set_cons_succ])
  refine wpAnyH_ready (rs := [11]) (by kernel_rfl) (by simp) ?_
  refine AllReadyH.cons (o := _) rfl (fun K hK => ?_) AllReadyH.nil
  have hy4 := HX2.out.up hb4
  have yl := hy4.lt
  have yf := hy4.frozen
  have y_0 := (hy4.box).2 0 _ rfl; have y_1 := (hy4.box).2 1 _ rfl; have y_2 := (hy4.box).2 2 _ rfl
  go_simp
  clear hy4 yl yf y_0 y_1 y_2
  refine hK.out _ _ (hS _ ((HI2.out.up hb4).far3 (b := g8 + 1) (by omega) _ _ _) ((HA2.out.up hb4).far3 (b := g8 + 1) (by omega) _ _ _)) (fun hHeld => ?_)
  clear hK K
  (try simp only [Act.put, List.setIfInBounds_toArray, List.set_cons_zero, List.set_cons_succ])
  (refine wpAnyH_tk 12 (some 12) (v := ?_) rfl rfl ?_ ?_; rotate_left; (focus (intro wq hSw; clear hSw; go_simp; all_goals (with_reducible rfl))); simp only [Act.put, List.setIfInBounds_toArray, List.set_cons_zero, List.set_cons_succ])
  (refine wpAnyH_tk 13 (some 13) (v := ?_) rfl rfl ?_ ?_; rotate_left; (focus (intro wq hSw; clear hSw; go_simp; all_goals (with_reducible rfl))); simp only [Act.put, List.setIfInBounds_toArray, List.set_cons_zero, List.set_cons_succ])
  refine wpAnyH_done (by kernel_rfl) ?_ _
  go_upto_region 24 with fail
  refine wp_two (fun W4 hW4 => ?_)
  have HX4 : Hid (Blk W4 (g8 + 1) 24 [.int .i64 0, .int .i64 0, .slice none 0 0]) := Lib.hid (by rw [hW4]; exact (HX2.out.up hb4).put3 _ _ _)
  have HW4 : Hid (Blk W4 g8 24 [.int .i64 0, .int .i64 0, .slice none 0 0]) := Lib.hid (by rw [hW4]; exact (HW2.out.up hb4).far3 (by omega) _ _ _)
  have HF4 : Hid (Blk W4 w.heap.size 24 [.int .i64 id, .int .i64 nodes, .slice A n c]) := Lib.hid (by rw [hW4]; exact (HF2.out.up hb4).far3 (by omega) _ _ _)
  have HI4 : Hid (Blk W4 g6 24 [.int .i64 id, .int .i64 nodes, .slice iA n ic]) := Lib.hid (by rw [hW4]; exact (HI2.out.up hb4).far3 (by omega) _ _ _)
  have HR4 : Hid (Blk W4 (w.heap.size + 2) 24 [.int .i64 0, .int .i64 0, .slice none 0 0]) := Lib.hid (by rw [hW4]; exact (HR2.out.up hb4).far3 (by omega) _ _ _)
  have hne8 : (Value.slice iA n ic).ownBlock ≠ some (g8 + 1) := fun e => by have := HIO.out _ e; omega
  have HO4 : Hid (OwnQ W4 (w.heap.size + 3) (.slice iA n ic) rows) := Lib.hid (by rw [hW4]; exact (((HO2.out.up hb4).setAp hne8).setAp hne8).setAp hne8)
  have hbW4 : Below w.heap.size w W4 := by rw [hW4]; exact bel_set3 (bel_set3 (bel_set3 (bel_trans hbw2 hb4) (by omega)) (by omega)) (by omega)
  clear hW4 HX2 HW2 HF2 HI2 HR2 hne8 HO2
  have il := HI4.out.lt
  have i_0 := (HI4.out.box).2 0 _ rfl; have i_1 := (HI4.out.box).2 1 _ rfl; have i_2 := (HI4.out.box).2 2 _ rfl
  have yl := HX4.out.lt
  have y_0 := (HX4.out.box).2 0 _ rfl; have y_1 := (HX4.out.box).2 1 _ rfl; have y_2 := (HX4.out.box).2 2 _ rfl
  have wl := HW4.out.lt
  have q_0 := (HW4.out.box).2 0 _ rfl; have q_1 := (HW4.out.box).2 1 _ rfl; have q_2 := (HW4.out.box).2 2 _ rfl
  have xl := HF4.out.lt
  have x_0 := (HF4.out.box).2 0 _ rfl; have x_1 := (HF4.out.box).2 1 _ rfl; have x_2 := (HF4.out.box).2 2 _ rfl
  go_upto_region 25 with (first
    | (go_at_call 11; refine (law21_num _ _).mono ?_; rintro e w' ⟨rfl, rfl⟩)
    | (go_at_call 13; refine (ref0_EqFetch id nodes iA n ic A n c rows _ ((by obtain ⟨A', c', e', h'⟩ := nmQ HO4.out HN.out (by omega); injection e' with e1 e2 e3; subst e1; exact h' : RowsR W4 iA n rows).up hb6) (HL.out.up (bel_trans hbW4 hb6))).mono ?_; rintro e w7 ⟨rfl, hb7⟩; have hb47 := bel_trans hb6 hb7; clear il i_0 i_1 i_2 xl x_0 x_1 x_2; have hX7 := HX4.out.up hb47; have yl := hX7.lt; have y_0 := (hX7.box).2 0 _ rfl; have y_1 := (hX7.box).2 1 _ rfl; have y_2 := (hX7.box).2 2 _ rfl; clear hX7)
    | (go_at_call 13; refine (ref0_EqFetch 0 0 none 0 0 none 0 0 [] _ (RowsR.nil _ _) (RowsR.nil _ _)).mono ?_; rintro e w5 ⟨rfl, hb5⟩; clear il i_0 i_1 i_2 yl y_0 y_1 y_2 wl q_0 q_1 q_2 xl x_0 x_1 x_2; have hI5 := HI4.out.up hb5; have il := hI5.lt; have i_0 := (hI5.box).2 0 _ rfl; have i_1 := (hI5.box).2 1 _ rfl; have i_2 := (hI5.box).2 2 _ rfl; clear hI5; have hF5 := HF4.out.up hb5; have xl := hF5.lt; have x_0 := (hF5.box).2 0 _ rfl; have x_1 := (hF5.box).2 1 _ rfl; have x_2 := (hF5.box).2 2 _ rfl; clear hF5)
    | (go_at_call 54; refine (ref0_EqMessages _ _ _ _ _ _ [] _ (MsgsR.nil _) (MsgsR.nil _)).mono ?_; rintro e w6 ⟨rfl, hb65⟩; have hb6 := bel_trans hb5 hb65; clear il i_0 i_1 i_2 xl x_0 x_1 x_2; have hI6 := HI4.out.up hb6; have il := hI6.lt; have i_0 := (hI6.box).2 0 _ rfl; have i_1 := (hI6.box).2 1 _ rfl; have i_2 := (hI6.box).2 2 _ rfl; clear hI6; have hF6 := HF4.out.up hb6; have xl := hF6.lt; have x_0 := (hF6.box).2 0 _ rfl; have x_1 := (hF6.box).2 1 _ rfl; have x_2 := (hF6.box).2 2 _ rfl; clear hF6))
  have hs40 : w.heap.size + 2 < W4.heap.size := HR4.out.lt
  have hs46 : g6 < W4.heap.size := HI4.out.lt
  have hs48 : g8 < W4.heap.size := HW4.out.lt
  have hbs4 := hb47.size
  go_upto_region 26 with (go_at_call 55; refine (law0_RowsS ⟨none, 0, 0⟩ W4.heap.size _ (.inl rfl) (by decide) hbs4).mono ?_; rintro e w8 ⟨rfl, hb8, hk8⟩)
  clear yl y_0 y_1 y_2
  have hbs8 := hb8.size
  go_upto_region 27 with (go_at_call 56; refine (law0_MessagesS ⟨none, 0, 0⟩ W4.heap.size _ (.inl rfl) (by decide) (by omega)).mono ?_; rintro e w9 ⟨rfl, hb9, hk9⟩)
  have HF9 : Hid (Blk w9 w.heap.size 24 [.int .i64 id, .int .i64 nodes, .slice A n c]) := Lib.hid (((HF4.out.up hb47).below hb8 (by omega)).below hb9 (by omega))
  have HI9 : Hid (Blk w9 g6 24 [.int .i64 id, .int .i64 nodes, .slice iA n ic]) := Lib.hid (((HI4.out.up hb47).below hb8 (by omega)).below hb9 (by omega))
  have HR9 : Hid (Blk w9 (w.heap.size + 2) 24 [.int .i64 0, .int .i64 0, .slice none 0 0]) := Lib.hid (((HR4.out.up hb47).below hb8 (by omega)).below hb9 (by omega))
  have HO9 : Hid (OwnQ w9 (w.heap.size + 3) (.slice iA n ic) rows) := Lib.hid (own_of_heap (HO4.out.up hb47) (fun g hg => by have := HIO.out g hg; rw [hb9.block g (by omega), hb8.block g (by omega)]))
  have hbw9 : Below w.heap.size w w9 := ((bel_trans hbW4 hb47).trans (hb8.mono (by omega))).trans (hb9.mono (by omega))
  clear HF4 HI4 HR4 HO4 HX4 HW4
  go_upto_region 28 with fail
  obtain ⟨S, hSd⟩ : ∃ S : World → Prop, S = fun Q => Q.rangeAt g6 0 [.int .i64 id, .int .i64 nodes, .slice iA n ic] ∧ Q.rangeAt w.heap.size 0 [.int .i64 id, .int .i64 nodes, .slice A n c] := ⟨_, rfl⟩
  have hS2 : ∀ Q, S Q → Q.rangeAt g6 0 [.int .i64 id, .int .i64 nodes, .slice iA n ic]  := fun Q h => by rw [hSd] at h; exact h.1
  have hS3 : ∀ Q, S Q → Q.rangeAt w.heap.size 0 [.int .i64 id, .int .i64 nodes, .slice A n c] := fun Q h => by rw [hSd] at h; exact h.2
  have hS : ∀ Q, Blk Q g6 24 [.int .i64 id, .int .i64 nodes, .slice iA n ic] → Blk Q w.heap.size 24 [.int .i64 id, .int .i64 nodes, .slice A n c] → S Q := fun Q h2 h3 => by rw [hSd]; exact ⟨Blk.rngQ h2, Blk.rngQ h3⟩
  clear hSd
  have hbd : Below w9.heap.size w9 w9.drew := bel_drew (Below.refl _ _)
  refine wp_region_held_drew (S := S) (by kernel_rfl) (hS _ (HI9.out.up hbd) (HF9.out.up hbd)) (fun hHeld => ?_)
  generalize w9.drew = Z at *
  refine wpAnyH_takeD (i := 0) (d := (some 119)) (v := .agg ([.int .i64 id, .int .i64 nodes, .slice A n c]).toArray) rfl rfl (by kernel_rfl) (by kernel_rfl) (by kernel_rfl) (fun _ _ _ h => h) (yieldsIf_load_mid (by rfl) 24 _ rfl w.heap.size 0 (by simp [Act.eval, Act.put]) ([.int .i64 id, .int .i64 nodes, .slice A n c]) _ (hS3) Try.underlying24 (by rfl) (by kernel_rfl)) (by assumption) ?_
  simp only [Act.put, List.setIfInBounds_toArray, List.set_cons_zero, List.set_cons_succ]
  (refine wpAnyH_tk 1 (some 120) (v := ?_) rfl rfl ?_ ?_; rotate_left; (focus (intro wq hSw; clear hSw; go_simp; all_goals (with_reducible rfl))); simp only [Act.put, List.setIfInBounds_toArray, List.set_cons_zero, List.set_cons_succ])
  (refine wpAnyH_tk 2 (some 121) (v := ?_) rfl rfl ?_ ?_; rotate_left; (focus (intro wq hSw; clear hSw; go_simp; all_goals (with_reducible rfl))); simp only [Act.put, List.setIfInBounds_toArray, List.set_cons_zero, List.set_cons_succ])
  refine wpAnyH_takeD (i := 3) (d := (some 122)) (v := .agg ([.int .i64 id, .int .i64 nodes, .slice iA n ic]).toArray) rfl rfl (by kernel_rfl) (by kernel_rfl) (by kernel_rfl) (fun _ _ _ h => h) (yieldsIf_load_mid (by rfl) 24 _ rfl g6 0 (by simp [Act.eval, Act.put]) ([.int .i64 id, .int .i64 nodes, .slice iA n ic]) _ (hS2) Try.underlying24 (by rfl) (by kernel_rfl)) (by assumption) ?_
  simp only [Act.put, List.setIfInBounds_toArray, List.set_cons_zero, List.set_cons_succ]
  refine wpAnyH_takeD (i := 4) (d := (some 123)) (v := .agg ([.int .i64 id, .int .i64 nodes, .slice A n c]).toArray) rfl rfl (by kernel_rfl) (by kernel_rfl) (by kernel_rfl) (fun _ _ _ h => h) (yieldsIf_load_mid (by rfl) 24 _ rfl w.heap.size 0 (by simp [Act.eval, Act.put]) ([.int .i64 id, .int .i64 nodes, .slice A n c]) _ (hS3) Try.underlying24 (by rfl) (by kernel_rfl)) (by assumption) ?_
  simp only [Act.put, List.setIfInBounds_toArray, List.set_cons_zero, List.set_cons_succ]
  refine wpAnyH_ready (rs := [5]) (by kernel_rfl) (by simp) ?_
  refine AllReadyH.cons (o := _) rfl (fun K hK => ?_) AllReadyH.nil
  go_simp
  (go_at_call 13; refine (ref0_EqFetch id nodes iA n ic A n c rows _ (by obtain ⟨A', c', e', h'⟩ := nmQ (HO9.out.up hbd) HN.out (by omega); injection e' with e1 e2 e3; subst e1; exact h') (HL.out.up (bel_trans hbw9 hbd))).mono ?_; rintro e wE ⟨rfl, hbE⟩)
  have hbb := bel_trans hbd hbE
  refine hK.out _ _ (hS _ (HI9.out.up hbb) (HF9.out.up hbb)) (fun hHeld => ?_)
  clear hK K
  (try simp only [Act.put, List.setIfInBounds_toArray, List.set_cons_zero, List.set_cons_succ])
  (refine wpAnyH_tk 6 (some 125) (v := ?_) rfl rfl ?_ ?_; rotate_left; (focus (intro wq hSw; clear hSw; go_simp; all_goals (with_reducible rfl))); simp only [Act.put, List.setIfInBounds_toArray, List.set_cons_zero, List.set_cons_succ])
  refine wpAnyH_ready (rs := [7]) (by kernel_rfl) (by simp) ?_
  refine AllReadyH.cons (o := _) rfl (fun K hK => ?_) AllReadyH.nil
  have hG5 := HR9.out.up hbb
  have gl := hG5.lt
  have gf := hG5.frozen
  have g_0 := (hG5.box).2 0 _ rfl; have g_1 := (hG5.box).2 1 _ rfl; have g_2 := (hG5.box).2 2 _ rfl
  go_simp
  clear gl gf g_0 g_1 g_2
  refine hK.out _ _ (hS _ ((HI9.out.up hbb).far3 (b := w.heap.size + 2) (by omega) _ _ _) ((HF9.out.up hbb).far3 (b := w.heap.size + 2) (by omega) _ _ _)) (fun hHeld => ?_)
  clear hK K
  (try simp only [Act.put, List.setIfInBounds_toArray, List.set_cons_zero, List.set_cons_succ])
  (refine wpAnyH_tk 8 (some 5) (v := ?_) rfl rfl ?_ ?_; rotate_left; (focus (intro wq hSw; clear hSw; go_simp; all_goals (with_reducible rfl))); simp only [Act.put, List.setIfInBounds_toArray, List.set_cons_zero, List.set_cons_succ])
  refine wpAnyH_done (by kernel_rfl) ?_ _
  have hG6 := hG5.put3 (.int .i64 id) (.int .i64 nodes) (.slice A n c)
  have gl := hG6.lt
  have g_0 := (hG6.box).2 0 _ rfl; have g_1 := (hG6.box).2 1 _ rfl; have g_2 := (hG6.box).2 2 _ rfl
  go_wp2_with fail
  refine bodyPost_ret (v := .tuple #[.agg #[.int .i64 id, .int .i64 nodes, .slice A n c], .bool true]) (by simp [results, Try.results24, go_sem, g_0, g_1, g_2]) rfl ⟨⟨id, nodes, ⟨A, n, c⟩, rows, rfl, HL.out.up (bel_set3 (bel_set3 (bel_set3 (bel_trans hbw9 hbb) (by omega)) (by omega)) (by omega)), by show n ≤ 1000000; omega⟩, bel_set3 (bel_set3 (bel_set3 (bel_trans hbw9 hbb) (by omega)) (by omega)) (by omega)⟩
set_option maxRecDepth 100000 in
set_option maxHeartbeats 8000000 in
theorem stepW_kind (id nodes : Int) (A : Option Addr) (n c : Nat) (rows : List FRowD) (dv ak ag : Int) (C : Option Addr) (m dd : Nat) (r : Int) (hr : ¬ r = 3 ∧ ¬ r = 4 ∧ ¬ r = 5) (lst : List Int) (w : World) (hl : RowsR w A n rows) (hM : mayF ⟨id, nodes, rows⟩ = true) (hd : wiI dv 6 = r) (hC : IntsR w C m lst) (hm2 : m ≤ 2000) (hn : n ≤ 1000000) (hb : ¬ (mayF ⟨id, nodes, rows⟩ = true ∧ kdS ak = true ∧ betS lst 1 65536 = true)) (hK : kdS ak = false) :
    Calls Try.prog 24 #[.agg #[.int .i64 id, .int .i64 nodes, .slice A n c], .agg #[.int .i64 dv, .int .i64 ak, .int .i64 ag, .slice C m dd]] w fun e w' => StepR w' e ∧ Below w.heap.size w w' := by
  have HNB : Hid (¬ (mayF ⟨id, nodes, rows⟩ = true ∧ kdS ak = true ∧ betS lst 1 65536 = true)) := Lib.hid hb
  have HC := Lib.hid hC
  have HCN := Lib.hid hC.1
  have HK := Lib.hid hK
  have HL := Lib.hid hl
  have HM := Lib.hid hM
  have HN := Lib.hid hl.1
  have HW := Lib.hid hd
  clear hK hl hM hd hC hb
  go_enter Try.func24, Try.ntmps24
  go_upto_region 1 with fail
  refine wp_two (fun W0 hW0 => ?_)
  have hb0 : Below w.heap.size w W0 := by rw [hW0]; (repeat (first | (with_reducible exact Below.refl _ _) | (with_reducible assumption) | (with_reducible apply bel_alloc) | (with_reducible apply bel_drew) | (with_reducible apply bel_drewN) | (with_reducible refine bel_trans ?_ (by with_reducible assumption)) | (with_reducible refine bel_trans ?_ (HF.out _)) | (with_reducible refine bel_set ?_ (by simp) _) | (with_reducible refine bel_set ?_ (by simp; omega) _) | (with_reducible refine bel_set ?_ (by omega) _)))
  have hs0 : W0.heap.size = w.heap.size + 3 := by rw [hW0]; simp
  have HB0 : Hid (Blk W0 w.heap.size 24 [.int .i64 id, .int .i64 nodes, .slice A n c] ∧ Blk W0 (w.heap.size + 1) 62 [.int .i64 dv, .int .i64 ak, .int .i64 ag, .slice C m dd] ∧ Blk W0 (w.heap.size + 2) 24 [.int .i64 0, .int .i64 0, .slice none 0 0]) := Lib.hid (by
    rw [hW0]
    have h1 : Blk (w.alloc (.cells #[.int .i64 id, .int .i64 nodes, .slice A n c] 24)) w.heap.size 24 [.int .i64 id, .int .i64 nodes, .slice A n c] := Blk.new _ 24 [.int .i64 id, .int .i64 nodes, .slice A n c]
    have h2 : Blk ((w.alloc (.cells #[.int .i64 id, .int .i64 nodes, .slice A n c] 24)).alloc (.cells #[.int .i64 dv, .int .i64 ak, .int .i64 ag, .slice C m dd] 62)) (w.heap.size + 1) 62 [.int .i64 dv, .int .i64 ak, .int .i64 ag, .slice C m dd] := by simpa using Blk.new (w.alloc (.cells #[.int .i64 id, .int .i64 nodes, .slice A n c] 24)) 62 [.int .i64 dv, .int .i64 ak, .int .i64 ag, .slice C m dd]
    have h3 : Blk (((w.alloc (.cells #[.int .i64 id, .int .i64 nodes, .slice A n c] 24)).alloc (.cells #[.int .i64 dv, .int .i64 ak, .int .i64 ag, .slice C m dd] 62)).alloc (.cells #[.int .i64 0, .int .i64 0, .slice none 0 0] 24)) (w.heap.size + 2) 24 [.int .i64 0, .int .i64 0, .slice none 0 0] := by simpa using Blk.new ((w.alloc (.cells #[.int .i64 id, .int .i64 nodes, .slice A n c] 24)).alloc (.cells #[.int .i64 dv, .int .i64 ak, .int .i64 ag, .slice C m dd] 62)) 24 [.int .i64 0, .int .i64 0, .slice none 0 0]
    exact ⟨(h1.up (bel_alloc (Below.refl _ _))).up (bel_alloc (Below.refl _ _)), h2.up (bel_alloc (Below.refl _ _)), h3⟩)
  clear hW0
  have xl := HB0.out.1.lt
  have x_0 := (HB0.out.1.box).2 0 _ rfl; have x_1 := (HB0.out.1.box).2 1 _ rfl; have x_2 := (HB0.out.1.box).2 2 _ rfl
  go_upto_region 2 with (go_at_call 21; refine (ref0_CopyFetch id nodes A n c rows _ (HL.out.up hb0) (by omega)).mono ?_; rintro e w1 ⟨v1, rfl, hown1, hb1⟩; obtain ⟨iA, ic, rfl, hri⟩ := nmQ hown1 HN.out (by omega))
  refine wp_two (fun W1 hW1 => ?_)
  obtain ⟨g6, hg6⟩ : ∃ g, g = w1.heap.size := ⟨_, rfl⟩
  have h1W : Below w1.heap.size w1 W1 := by rw [hW1]; exact bel_alloc (Below.refl _ _)
  have h01 : Below W0.heap.size W0 W1 := bel_trans hb1 h1W
  have HI1 : Hid (Blk W1 g6 24 [.int .i64 id, .int .i64 nodes, .slice iA n ic]) := Lib.hid (by rw [hW1, hg6]; exact Blk.new w1 24 [.int .i64 id, .int .i64 nodes, .slice iA n ic])
  have HRI1 : Hid (RowsR W1 iA n rows) := Lib.hid (hri.up h1W)
  have HF1 := Lib.hid (HB0.out.1.up h01)
  have HA1 := Lib.hid (HB0.out.2.1.up h01)
  have HR1 := Lib.hid (HB0.out.2.2.up h01)
  have hbw1 := bel_trans hb0 h01
  have hg60 : w.heap.size + 3 ≤ g6 := by rw [hg6]; have := hb1.size; omega
  rw [← hg6]
  have HIO : Hid (∀ g, (Value.slice iA n ic).ownBlock = some g → g < g6) := Lib.hid (fun g e => by rw [hg6]; exact (own_lt hown1 g e).2)
  have HO1 : Hid (OwnQ W1 (w.heap.size + 3) (.slice iA n ic) rows) := Lib.hid ((hown1.mono (by omega)).up h1W)
  clear hW1 hg6 hown1 hri hb1 h1W h01 HB0 hb0 hs0 xl x_0 x_1 x_2
  have xl := HF1.out.lt
  have x_0 := (HF1.out.box).2 0 _ rfl; have x_1 := (HF1.out.box).2 1 _ rfl; have x_2 := (HF1.out.box).2 2 _ rfl
  go_upto_region 3 with (go_at_call 22; refine (ref21_May id nodes rows A n c true _ (HL.out.up hbw1) HM.out).mono ?_; rintro e w2 ⟨rfl, hb2⟩)
  clear xl x_0 x_1 x_2
  go_upto_region 7 with fail
  refine wp_two (fun W2 hW2 => ?_)
  obtain ⟨g8, hg8⟩ : ∃ g, g = w2.heap.size := ⟨_, rfl⟩
  have h2W : Below w2.heap.size w2 W2 := by rw [hW2]; (repeat (first | (with_reducible exact Below.refl _ _) | (with_reducible assumption) | (with_reducible apply bel_alloc) | (with_reducible apply bel_drew) | (with_reducible apply bel_drewN) | (with_reducible refine bel_trans ?_ (by with_reducible assumption)) | (with_reducible refine bel_trans ?_ (HF.out _)) | (with_reducible refine bel_set ?_ (by simp) _) | (with_reducible refine bel_set ?_ (by simp; omega) _) | (with_reducible refine bel_set ?_ (by omega) _)))
  have HW2 : Hid (Blk W2 g8 24 [.int .i64 0, .int .i64 0, .slice none 0 0]) := Lib.hid (by rw [hW2, hg8]; exact (Blk.new w2 24 [.int .i64 0, .int .i64 0, .slice none 0 0]).up (bel_alloc (Below.refl _ _)))
  have HX2 : Hid (Blk W2 (g8 + 1) 24 [.int .i64 0, .int .i64 0, .slice none 0 0]) := Lib.hid (by rw [hW2, hg8]; simpa using Blk.new (w2.alloc (.cells #[.int .i64 0, .int .i64 0, .slice none 0 0] 24)) 24 [.int .i64 0, .int .i64 0, .slice none 0 0])
  have hg86 : g6 < g8 := by rw [hg8]; exact Nat.lt_of_lt_of_le HI1.out.lt hb2.size
  have h12 : Below W1.heap.size W1 W2 := bel_trans hb2 h2W
  have HF2 := Lib.hid (HF1.out.up h12)
  have HA2 := Lib.hid (HA1.out.up h12)
  have HI2 := Lib.hid (HI1.out.up h12)
  have HO2 := Lib.hid (HO1.out.up h12)
  have HR2 := Lib.hid (HR1.out.up h12)
  have hbw2 := bel_trans hbw1 h12
  rw [← hg8]
  clear hW2 hg8 h2W h12 hb2 HF1 HA1 HI1 HRI1 HO1 HR1 hbw1
  have xl := HF2.out.lt
  have x_0 := (HF2.out.box).2 0 _ rfl; have x_1 := (HF2.out.box).2 1 _ rfl; have x_2 := (HF2.out.box).2 2 _ rfl
  have al := HA2.out.lt
  have a_0 := (HA2.out.box).2 0 _ rfl; have a_1 := (HA2.out.box).2 1 _ rfl; have a_2 := (HA2.out.box).2 2 _ rfl; have a_3 := (HA2.out.box).2 3 _ rfl
  have wl := HW2.out.lt
  have wf := HW2.out.frozen
  have q_0 := (HW2.out.box).2 0 _ rfl; have q_1 := (HW2.out.box).2 1 _ rfl; have q_2 := (HW2.out.box).2 2 _ rfl
  have hr3 : (r == 3) = false := by simpa using hr.1
  have hr4 : (r == 4) = false := by simpa using hr.2.1
  have hr5 : (r == 5) = false := by simpa using hr.2.2
  have hgs : g8 + 2 ≤ W2.heap.size := HX2.out.lt
  go_upto_region 11 with (first | (go_at_call 16; refine (law0_Within dv 6 r _ (by omega) (by omega) HW.out).mono ?_; rintro e w' ⟨rfl, rfl⟩) | (go_at_call 50; refine (ref21_Kind _ _ _ HK.out).mono ?_; rintro e w' ⟨rfl, rfl⟩))
  clear xl x_0 x_1 x_2 al a_0 a_1 a_2 a_3 wl wf q_0 q_1 q_2 hr3 hr4 hr5
  obtain ⟨S, hSd⟩ : ∃ S : World → Prop, S = fun Q => Q.rangeAt g6 0 [.int .i64 id, .int .i64 nodes, .slice iA n ic] ∧ Q.rangeAt (w.heap.size + 1) 0 [.int .i64 dv, .int .i64 ak, .int .i64 ag, .slice C m dd] := ⟨_, rfl⟩
  have hS1 : ∀ Q, S Q → Q.rangeAt g6 0 [.int .i64 id, .int .i64 nodes, .slice iA n ic] := fun Q h => by rw [hSd] at h; exact h.1
  have hS2 : ∀ Q, S Q → Q.cell? ⟨w.heap.size + 1, 1, none⟩ = some (.int .i64 ak) := fun Q h => by rw [hSd] at h; exact h.2 1 _ rfl
  have hS3 : ∀ Q, S Q → Q.cell? ⟨w.heap.size + 1, 3, none⟩ = some (.slice C m dd) := fun Q h => by rw [hSd] at h; exact h.2 3 _ rfl
  have hS : ∀ Q, Blk Q g6 24 [.int .i64 id, .int .i64 nodes, .slice iA n ic] → Blk Q (w.heap.size + 1) 62 [.int .i64 dv, .int .i64 ak, .int .i64 ag, .slice C m dd] → S Q := fun Q h1 h2 => by rw [hSd]; exact ⟨Blk.rngQ h1, Blk.rngQ h2⟩
  clear hSd
  have hbd : Below W2.heap.size W2 W2.drew := bel_drew (Below.refl _ _)
  refine wp_region_held_drew (S := S) (by kernel_rfl) (hS _ (HI2.out.up hbd) (HA2.out.up hbd)) (fun hHeld => ?_)
  generalize W2.drew = Z at *
  refine wpAnyH_takeD (i := 0) (d := (some 44)) (v := .agg ([.int .i64 id, .int .i64 nodes, .slice iA n ic]).toArray) rfl rfl (by kernel_rfl) (by kernel_rfl) (by kernel_rfl) (fun _ _ _ h => h) (yieldsIf_load_mid (by rfl) 24 _ rfl g6 0 (by simp [Act.eval, Act.put]) ([.int .i64 id, .int .i64 nodes, .slice iA n ic]) _ (hS1) Try.underlying24 (by rfl) (by kernel_rfl)) (by assumption) ?_
  simp only [Act.put, List.setIfInBounds_toArray, List.set_cons_zero, List.set_cons_succ]
  (refine wpAnyH_tk 1 (some 45) (v := ?_) rfl rfl ?_ ?_; rotate_left; (focus (intro wq hSw; clear hSw; go_simp; all_goals (with_reducible rfl))); simp only [Act.put, List.setIfInBounds_toArray, List.set_cons_zero, List.set_cons_succ])
  (refine wpAnyH_tk 2 (some 46) (v := ?_) rfl rfl ?_ ?_; rotate_left; (focus (intro wq hSw; have q1 := hS2 wq hSw; clear hSw; go_simp; all_goals (with_reducible rfl))); simp only [Act.put, List.setIfInBounds_toArray, List.set_cons_zero, List.set_cons_succ])
  (refine wpAnyH_tk 3 (some 47) (v := ?_) rfl rfl ?_ ?_; rotate_left; (focus (intro wq hSw; clear hSw; go_simp; all_goals (with_reducible rfl))); simp only [Act.put, List.setIfInBounds_toArray, List.set_cons_zero, List.set_cons_succ])
  (refine wpAnyH_tk 4 (some 48) (v := ?_) rfl rfl ?_ ?_; rotate_left; (focus (intro wq hSw; have q1 := hS3 wq hSw; clear hSw; go_simp; all_goals (with_reducible rfl))); simp only [Act.put, List.setIfInBounds_toArray, List.set_cons_zero, List.set_cons_succ])
  refine wpAnyH_ready (rs := [5]) (by kernel_rfl) (by simp) ?_
  refine AllReadyH.cons (o := _) rfl (fun K hK => ?_) AllReadyH.nil
  go_simp
  (go_at_call 53; refine (ref0_CopyNumbers C m dd lst _ (HC.out.up (bel_trans hbw2 hbd)) (by omega)).mono ?_; rintro e w5 ⟨v5, rfl, ho5, hb5⟩)
  obtain ⟨lA, lc, rfl, hli⟩ := nmI ho5 HCN.out (by omega)
  have hbb := bel_trans hbd hb5
  have HLI := Lib.hid hli
  have hs35 := hbb.size
  clear hli ho5
  refine hK.out _ _ (hS _ (HI2.out.up hbb) (HA2.out.up hbb)) (fun hHeld => ?_)
  clear hK K
  (try simp only [Act.put, List.setIfInBounds_toArray, List.set_cons_zero, List.set_cons_succ])
  refine wpAnyH_ready (rs := [6]) (by kernel_rfl) (by simp) ?_
  refine AllReadyH.cons (o := _) rfl (fun K hK => ?_) AllReadyH.nil
  go_simp
  (go_at_call 10; refine (fetch_Want_bad id nodes ak iA n ic rows lA m lc lst _ (OwnQ.rowsR (HO2.out.up hbb) HN.out (by omega)) HLI.out HNB.out).mono ?_; rintro e w4 ⟨rfl, hb6⟩)
  have hb4 := bel_trans hbb hb6
  refine hK.out _ _ (hS _ (HI2.out.up hb4) (HA2.out.up hb4)) (fun hHeld => ?_)
  clear hK K
  (try simp only [Act.put, List.setIfInBounds_toArray, List.set_cons_zero, List.set_cons_succ])
  (refine wpAnyH_tk 7 (some 43) (v := ?_) rfl rfl ?_ ?_; rotate_left; (focus (intro wq hSw; clear hSw; go_simp; all_goals (with_reducible rfl))); simp only [Act.put, List.setIfInBounds_toArray, List.set_cons_zero, List.set_cons_succ])
  (refine wpAnyH_tk 8 (some 51) (v := ?_) rfl rfl ?_ ?_; rotate_left; (focus (intro wq hSw; clear hSw; go_simp; all_goals (with_reducible rfl))); simp only [Act.put, List.setIfInBounds_toArray, List.set_cons_zero, List.set_cons_succ])
  (refine wpAnyH_tk 9 (some 52) (v := ?_) rfl rfl ?_ ?_; rotate_left; (focus (intro wq hSw; clear hSw; go_simp; all_goals (with_reducible rfl))); simp only [Act.put, List.setIfInBounds_toArray, List.set_cons_zero, List.set_cons_succ])
  (refine wpAnyH_tk 10 (some 53) (v := ?_) rfl rfl ?_ ?_; rotate_left; (focus (intro wq hSw; clear hSw; go_simp; all_goals (with_reducible rfl))); simp only [Act.put, List.setIfInBounds_toArray, List.set_cons_zero, List.set_cons_succ])
  refine wpAnyH_ready (rs := [11]) (by kernel_rfl) (by simp) ?_
  refine AllReadyH.cons (o := _) rfl (fun K hK => ?_) AllReadyH.nil
  have hy4 := HX2.out.up hb4
  have yl := hy4.lt
  have yf := hy4.frozen
  have y_0 := (hy4.box).2 0 _ rfl; have y_1 := (hy4.box).2 1 _ rfl; have y_2 := (hy4.box).2 2 _ rfl
  go_simp
  clear hy4 yl yf y_0 y_1 y_2
  refine hK.out _ _ (hS _ ((HI2.out.up hb4).far3 (b := g8 + 1) (by omega) _ _ _) ((HA2.out.up hb4).far3 (b := g8 + 1) (by omega) _ _ _)) (fun hHeld => ?_)
  clear hK K
  (try simp only [Act.put, List.setIfInBounds_toArray, List.set_cons_zero, List.set_cons_succ])
  (refine wpAnyH_tk 12 (some 12) (v := ?_) rfl rfl ?_ ?_; rotate_left; (focus (intro wq hSw; clear hSw; go_simp; all_goals (with_reducible rfl))); simp only [Act.put, List.setIfInBounds_toArray, List.set_cons_zero, List.set_cons_succ])
  (refine wpAnyH_tk 13 (some 13) (v := ?_) rfl rfl ?_ ?_; rotate_left; (focus (intro wq hSw; clear hSw; go_simp; all_goals (with_reducible rfl))); simp only [Act.put, List.setIfInBounds_toArray, List.set_cons_zero, List.set_cons_succ])
  refine wpAnyH_done (by kernel_rfl) ?_ _
  go_upto_region 24 with fail
  refine wp_two (fun W4 hW4 => ?_)
  have HX4 : Hid (Blk W4 (g8 + 1) 24 [.int .i64 0, .int .i64 0, .slice none 0 0]) := Lib.hid (by rw [hW4]; exact (HX2.out.up hb4).put3 _ _ _)
  have HW4 : Hid (Blk W4 g8 24 [.int .i64 0, .int .i64 0, .slice none 0 0]) := Lib.hid (by rw [hW4]; exact (HW2.out.up hb4).far3 (by omega) _ _ _)
  have HF4 : Hid (Blk W4 w.heap.size 24 [.int .i64 id, .int .i64 nodes, .slice A n c]) := Lib.hid (by rw [hW4]; exact (HF2.out.up hb4).far3 (by omega) _ _ _)
  have HI4 : Hid (Blk W4 g6 24 [.int .i64 id, .int .i64 nodes, .slice iA n ic]) := Lib.hid (by rw [hW4]; exact (HI2.out.up hb4).far3 (by omega) _ _ _)
  have HR4 : Hid (Blk W4 (w.heap.size + 2) 24 [.int .i64 0, .int .i64 0, .slice none 0 0]) := Lib.hid (by rw [hW4]; exact (HR2.out.up hb4).far3 (by omega) _ _ _)
  have hne8 : (Value.slice iA n ic).ownBlock ≠ some (g8 + 1) := fun e => by have := HIO.out _ e; omega
  have HO4 : Hid (OwnQ W4 (w.heap.size + 3) (.slice iA n ic) rows) := Lib.hid (by rw [hW4]; exact (((HO2.out.up hb4).setAp hne8).setAp hne8).setAp hne8)
  have hbW4 : Below w.heap.size w W4 := by rw [hW4]; exact bel_set3 (bel_set3 (bel_set3 (bel_trans hbw2 hb4) (by omega)) (by omega)) (by omega)
  clear hW4 HX2 HW2 HF2 HI2 HR2 hne8 HO2
  have il := HI4.out.lt
  have i_0 := (HI4.out.box).2 0 _ rfl; have i_1 := (HI4.out.box).2 1 _ rfl; have i_2 := (HI4.out.box).2 2 _ rfl
  have yl := HX4.out.lt
  have y_0 := (HX4.out.box).2 0 _ rfl; have y_1 := (HX4.out.box).2 1 _ rfl; have y_2 := (HX4.out.box).2 2 _ rfl
  have wl := HW4.out.lt
  have q_0 := (HW4.out.box).2 0 _ rfl; have q_1 := (HW4.out.box).2 1 _ rfl; have q_2 := (HW4.out.box).2 2 _ rfl
  have xl := HF4.out.lt
  have x_0 := (HF4.out.box).2 0 _ rfl; have x_1 := (HF4.out.box).2 1 _ rfl; have x_2 := (HF4.out.box).2 2 _ rfl
  go_upto_region 25 with (first
    | (go_at_call 11; refine (law21_num _ _).mono ?_; rintro e w' ⟨rfl, rfl⟩)
    | (go_at_call 13; refine (ref0_EqFetch id nodes iA n ic A n c rows _ ((by obtain ⟨A', c', e', h'⟩ := nmQ HO4.out HN.out (by omega); injection e' with e1 e2 e3; subst e1; exact h' : RowsR W4 iA n rows).up hb6) (HL.out.up (bel_trans hbW4 hb6))).mono ?_; rintro e w7 ⟨rfl, hb7⟩; have hb47 := bel_trans hb6 hb7; clear il i_0 i_1 i_2 xl x_0 x_1 x_2; have hX7 := HX4.out.up hb47; have yl := hX7.lt; have y_0 := (hX7.box).2 0 _ rfl; have y_1 := (hX7.box).2 1 _ rfl; have y_2 := (hX7.box).2 2 _ rfl; clear hX7)
    | (go_at_call 13; refine (ref0_EqFetch 0 0 none 0 0 none 0 0 [] _ (RowsR.nil _ _) (RowsR.nil _ _)).mono ?_; rintro e w5 ⟨rfl, hb5⟩; clear il i_0 i_1 i_2 yl y_0 y_1 y_2 wl q_0 q_1 q_2 xl x_0 x_1 x_2; have hI5 := HI4.out.up hb5; have il := hI5.lt; have i_0 := (hI5.box).2 0 _ rfl; have i_1 := (hI5.box).2 1 _ rfl; have i_2 := (hI5.box).2 2 _ rfl; clear hI5; have hF5 := HF4.out.up hb5; have xl := hF5.lt; have x_0 := (hF5.box).2 0 _ rfl; have x_1 := (hF5.box).2 1 _ rfl; have x_2 := (hF5.box).2 2 _ rfl; clear hF5)
    | (go_at_call 54; refine (ref0_EqMessages _ _ _ _ _ _ [] _ (MsgsR.nil _) (MsgsR.nil _)).mono ?_; rintro e w6 ⟨rfl, hb65⟩; have hb6 := bel_trans hb5 hb65; clear il i_0 i_1 i_2 xl x_0 x_1 x_2; have hI6 := HI4.out.up hb6; have il := hI6.lt; have i_0 := (hI6.box).2 0 _ rfl; have i_1 := (hI6.box).2 1 _ rfl; have i_2 := (hI6.box).2 2 _ rfl; clear hI6; have hF6 := HF4.out.up hb6; have xl := hF6.lt; have x_0 := (hF6.box).2 0 _ rfl; have x_1 := (hF6.box).2 1 _ rfl; have x_2 := (hF6.box).2 2 _ rfl; clear hF6))
  have hs40 : w.heap.size + 2 < W4.heap.size := HR4.out.lt
  have hs46 : g6 < W4.heap.size := HI4.out.lt
  have hs48 : g8 < W4.heap.size := HW4.out.lt
  have hbs4 := hb47.size
  go_upto_region 26 with (go_at_call 55; refine (law0_RowsS ⟨none, 0, 0⟩ W4.heap.size _ (.inl rfl) (by decide) hbs4).mono ?_; rintro e w8 ⟨rfl, hb8, hk8⟩)
  clear yl y_0 y_1 y_2
  have hbs8 := hb8.size
  go_upto_region 27 with (go_at_call 56; refine (law0_MessagesS ⟨none, 0, 0⟩ W4.heap.size _ (.inl rfl) (by decide) (by omega)).mono ?_; rintro e w9 ⟨rfl, hb9, hk9⟩)
  have HF9 : Hid (Blk w9 w.heap.size 24 [.int .i64 id, .int .i64 nodes, .slice A n c]) := Lib.hid (((HF4.out.up hb47).below hb8 (by omega)).below hb9 (by omega))
  have HI9 : Hid (Blk w9 g6 24 [.int .i64 id, .int .i64 nodes, .slice iA n ic]) := Lib.hid (((HI4.out.up hb47).below hb8 (by omega)).below hb9 (by omega))
  have HR9 : Hid (Blk w9 (w.heap.size + 2) 24 [.int .i64 0, .int .i64 0, .slice none 0 0]) := Lib.hid (((HR4.out.up hb47).below hb8 (by omega)).below hb9 (by omega))
  have HO9 : Hid (OwnQ w9 (w.heap.size + 3) (.slice iA n ic) rows) := Lib.hid (own_of_heap (HO4.out.up hb47) (fun g hg => by have := HIO.out g hg; rw [hb9.block g (by omega), hb8.block g (by omega)]))
  have hbw9 : Below w.heap.size w w9 := ((bel_trans hbW4 hb47).trans (hb8.mono (by omega))).trans (hb9.mono (by omega))
  clear HF4 HI4 HR4 HO4 HX4 HW4
  go_upto_region 28 with fail
  obtain ⟨S, hSd⟩ : ∃ S : World → Prop, S = fun Q => Q.rangeAt g6 0 [.int .i64 id, .int .i64 nodes, .slice iA n ic] ∧ Q.rangeAt w.heap.size 0 [.int .i64 id, .int .i64 nodes, .slice A n c] := ⟨_, rfl⟩
  have hS2 : ∀ Q, S Q → Q.rangeAt g6 0 [.int .i64 id, .int .i64 nodes, .slice iA n ic]  := fun Q h => by rw [hSd] at h; exact h.1
  have hS3 : ∀ Q, S Q → Q.rangeAt w.heap.size 0 [.int .i64 id, .int .i64 nodes, .slice A n c] := fun Q h => by rw [hSd] at h; exact h.2
  have hS : ∀ Q, Blk Q g6 24 [.int .i64 id, .int .i64 nodes, .slice iA n ic] → Blk Q w.heap.size 24 [.int .i64 id, .int .i64 nodes, .slice A n c] → S Q := fun Q h2 h3 => by rw [hSd]; exact ⟨Blk.rngQ h2, Blk.rngQ h3⟩
  clear hSd
  have hbd : Below w9.heap.size w9 w9.drew := bel_drew (Below.refl _ _)
  refine wp_region_held_drew (S := S) (by kernel_rfl) (hS _ (HI9.out.up hbd) (HF9.out.up hbd)) (fun hHeld => ?_)
  generalize w9.drew = Z at *
  refine wpAnyH_takeD (i := 0) (d := (some 119)) (v := .agg ([.int .i64 id, .int .i64 nodes, .slice A n c]).toArray) rfl rfl (by kernel_rfl) (by kernel_rfl) (by kernel_rfl) (fun _ _ _ h => h) (yieldsIf_load_mid (by rfl) 24 _ rfl w.heap.size 0 (by simp [Act.eval, Act.put]) ([.int .i64 id, .int .i64 nodes, .slice A n c]) _ (hS3) Try.underlying24 (by rfl) (by kernel_rfl)) (by assumption) ?_
  simp only [Act.put, List.setIfInBounds_toArray, List.set_cons_zero, List.set_cons_succ]
  (refine wpAnyH_tk 1 (some 120) (v := ?_) rfl rfl ?_ ?_; rotate_left; (focus (intro wq hSw; clear hSw; go_simp; all_goals (with_reducible rfl))); simp only [Act.put, List.setIfInBounds_toArray, List.set_cons_zero, List.set_cons_succ])
  (refine wpAnyH_tk 2 (some 121) (v := ?_) rfl rfl ?_ ?_; rotate_left; (focus (intro wq hSw; clear hSw; go_simp; all_goals (with_reducible rfl))); simp only [Act.put, List.setIfInBounds_toArray, List.set_cons_zero, List.set_cons_succ])
  refine wpAnyH_takeD (i := 3) (d := (some 122)) (v := .agg ([.int .i64 id, .int .i64 nodes, .slice iA n ic]).toArray) rfl rfl (by kernel_rfl) (by kernel_rfl) (by kernel_rfl) (fun _ _ _ h => h) (yieldsIf_load_mid (by rfl) 24 _ rfl g6 0 (by simp [Act.eval, Act.put]) ([.int .i64 id, .int .i64 nodes, .slice iA n ic]) _ (hS2) Try.underlying24 (by rfl) (by kernel_rfl)) (by assumption) ?_
  simp only [Act.put, List.setIfInBounds_toArray, List.set_cons_zero, List.set_cons_succ]
  refine wpAnyH_takeD (i := 4) (d := (some 123)) (v := .agg ([.int .i64 id, .int .i64 nodes, .slice A n c]).toArray) rfl rfl (by kernel_rfl) (by kernel_rfl) (by kernel_rfl) (fun _ _ _ h => h) (yieldsIf_load_mid (by rfl) 24 _ rfl w.heap.size 0 (by simp [Act.eval, Act.put]) ([.int .i64 id, .int .i64 nodes, .slice A n c]) _ (hS3) Try.underlying24 (by rfl) (by kernel_rfl)) (by assumption) ?_
  simp only [Act.put, List.setIfInBounds_toArray, List.set_cons_zero, List.set_cons_succ]
  refine wpAnyH_ready (rs := [5]) (by kernel_rfl) (by simp) ?_
  refine AllReadyH.cons (o := _) rfl (fun K hK => ?_) AllReadyH.nil
  go_simp
  (go_at_call 13; refine (ref0_EqFetch id nodes iA n ic A n c rows _ (by obtain ⟨A', c', e', h'⟩ := nmQ (HO9.out.up hbd) HN.out (by omega); injection e' with e1 e2 e3; subst e1; exact h') (HL.out.up (bel_trans hbw9 hbd))).mono ?_; rintro e wE ⟨rfl, hbE⟩)
  have hbb := bel_trans hbd hbE
  refine hK.out _ _ (hS _ (HI9.out.up hbb) (HF9.out.up hbb)) (fun hHeld => ?_)
  clear hK K
  (try simp only [Act.put, List.setIfInBounds_toArray, List.set_cons_zero, List.set_cons_succ])
  (refine wpAnyH_tk 6 (some 125) (v := ?_) rfl rfl ?_ ?_; rotate_left; (focus (intro wq hSw; clear hSw; go_simp; all_goals (with_reducible rfl))); simp only [Act.put, List.setIfInBounds_toArray, List.set_cons_zero, List.set_cons_succ])
  refine wpAnyH_ready (rs := [7]) (by kernel_rfl) (by simp) ?_
  refine AllReadyH.cons (o := _) rfl (fun K hK => ?_) AllReadyH.nil
  have hG5 := HR9.out.up hbb
  have gl := hG5.lt
  have gf := hG5.frozen
  have g_0 := (hG5.box).2 0 _ rfl; have g_1 := (hG5.box).2 1 _ rfl; have g_2 := (hG5.box).2 2 _ rfl
  go_simp
  clear gl gf g_0 g_1 g_2
  refine hK.out _ _ (hS _ ((HI9.out.up hbb).far3 (b := w.heap.size + 2) (by omega) _ _ _) ((HF9.out.up hbb).far3 (b := w.heap.size + 2) (by omega) _ _ _)) (fun hHeld => ?_)
  clear hK K
  (try simp only [Act.put, List.setIfInBounds_toArray, List.set_cons_zero, List.set_cons_succ])
  (refine wpAnyH_tk 8 (some 5) (v := ?_) rfl rfl ?_ ?_; rotate_left; (focus (intro wq hSw; clear hSw; go_simp; all_goals (with_reducible rfl))); simp only [Act.put, List.setIfInBounds_toArray, List.set_cons_zero, List.set_cons_succ])
  refine wpAnyH_done (by kernel_rfl) ?_ _
  have hG6 := hG5.put3 (.int .i64 id) (.int .i64 nodes) (.slice A n c)
  have gl := hG6.lt
  have g_0 := (hG6.box).2 0 _ rfl; have g_1 := (hG6.box).2 1 _ rfl; have g_2 := (hG6.box).2 2 _ rfl
  go_wp2_with fail
  refine bodyPost_ret (v := .tuple #[.agg #[.int .i64 id, .int .i64 nodes, .slice A n c], .bool true]) (by simp [results, Try.results24, go_sem, g_0, g_1, g_2]) rfl ⟨⟨id, nodes, ⟨A, n, c⟩, rows, rfl, HL.out.up (bel_set3 (bel_set3 (bel_set3 (bel_trans hbw9 hbb) (by omega)) (by omega)) (by omega)), by show n ≤ 1000000; omega⟩, bel_set3 (bel_set3 (bel_set3 (bel_trans hbw9 hbb) (by omega)) (by omega)) (by omega)⟩
set_option maxRecDepth 100000 in
set_option maxHeartbeats 8000000 in
theorem stepW_digs (id nodes : Int) (A : Option Addr) (n c : Nat) (rows : List FRowD) (dv ak ag : Int) (C : Option Addr) (m dd : Nat) (r : Int) (hr : ¬ r = 3 ∧ ¬ r = 4 ∧ ¬ r = 5) (lst : List Int) (w : World) (hl : RowsR w A n rows) (hM : mayF ⟨id, nodes, rows⟩ = true) (hd : wiI dv 6 = r) (hC : IntsR w C m lst) (hm2 : m ≤ 2000) (hn : n ≤ 1000000) (hb : ¬ (mayF ⟨id, nodes, rows⟩ = true ∧ kdS ak = true ∧ betS lst 1 65536 = true)) (hK : kdS ak = true) (hD : betS lst 1 65536 = false) :
    Calls Try.prog 24 #[.agg #[.int .i64 id, .int .i64 nodes, .slice A n c], .agg #[.int .i64 dv, .int .i64 ak, .int .i64 ag, .slice C m dd]] w fun e w' => StepR w' e ∧ Below w.heap.size w w' := by
  have HNB : Hid (¬ (mayF ⟨id, nodes, rows⟩ = true ∧ kdS ak = true ∧ betS lst 1 65536 = true)) := Lib.hid hb
  have HC := Lib.hid hC
  have HCN := Lib.hid hC.1
  have HK := Lib.hid hK
  have HD := Lib.hid hD
  have HL := Lib.hid hl
  have HM := Lib.hid hM
  have HN := Lib.hid hl.1
  have HW := Lib.hid hd
  clear hK hD hl hM hd hC hb
  go_enter Try.func24, Try.ntmps24
  go_upto_region 1 with fail
  refine wp_two (fun W0 hW0 => ?_)
  have hb0 : Below w.heap.size w W0 := by rw [hW0]; (repeat (first | (with_reducible exact Below.refl _ _) | (with_reducible assumption) | (with_reducible apply bel_alloc) | (with_reducible apply bel_drew) | (with_reducible apply bel_drewN) | (with_reducible refine bel_trans ?_ (by with_reducible assumption)) | (with_reducible refine bel_trans ?_ (HF.out _)) | (with_reducible refine bel_set ?_ (by simp) _) | (with_reducible refine bel_set ?_ (by simp; omega) _) | (with_reducible refine bel_set ?_ (by omega) _)))
  have hs0 : W0.heap.size = w.heap.size + 3 := by rw [hW0]; simp
  have HB0 : Hid (Blk W0 w.heap.size 24 [.int .i64 id, .int .i64 nodes, .slice A n c] ∧ Blk W0 (w.heap.size + 1) 62 [.int .i64 dv, .int .i64 ak, .int .i64 ag, .slice C m dd] ∧ Blk W0 (w.heap.size + 2) 24 [.int .i64 0, .int .i64 0, .slice none 0 0]) := Lib.hid (by
    rw [hW0]
    have h1 : Blk (w.alloc (.cells #[.int .i64 id, .int .i64 nodes, .slice A n c] 24)) w.heap.size 24 [.int .i64 id, .int .i64 nodes, .slice A n c] := Blk.new _ 24 [.int .i64 id, .int .i64 nodes, .slice A n c]
    have h2 : Blk ((w.alloc (.cells #[.int .i64 id, .int .i64 nodes, .slice A n c] 24)).alloc (.cells #[.int .i64 dv, .int .i64 ak, .int .i64 ag, .slice C m dd] 62)) (w.heap.size + 1) 62 [.int .i64 dv, .int .i64 ak, .int .i64 ag, .slice C m dd] := by simpa using Blk.new (w.alloc (.cells #[.int .i64 id, .int .i64 nodes, .slice A n c] 24)) 62 [.int .i64 dv, .int .i64 ak, .int .i64 ag, .slice C m dd]
    have h3 : Blk (((w.alloc (.cells #[.int .i64 id, .int .i64 nodes, .slice A n c] 24)).alloc (.cells #[.int .i64 dv, .int .i64 ak, .int .i64 ag, .slice C m dd] 62)).alloc (.cells #[.int .i64 0, .int .i64 0, .slice none 0 0] 24)) (w.heap.size + 2) 24 [.int .i64 0, .int .i64 0, .slice none 0 0] := by simpa using Blk.new ((w.alloc (.cells #[.int .i64 id, .int .i64 nodes, .slice A n c] 24)).alloc (.cells #[.int .i64 dv, .int .i64 ak, .int .i64 ag, .slice C m dd] 62)) 24 [.int .i64 0, .int .i64 0, .slice none 0 0]
    exact ⟨(h1.up (bel_alloc (Below.refl _ _))).up (bel_alloc (Below.refl _ _)), h2.up (bel_alloc (Below.refl _ _)), h3⟩)
  clear hW0
  have xl := HB0.out.1.lt
  have x_0 := (HB0.out.1.box).2 0 _ rfl; have x_1 := (HB0.out.1.box).2 1 _ rfl; have x_2 := (HB0.out.1.box).2 2 _ rfl
  go_upto_region 2 with (go_at_call 21; refine (ref0_CopyFetch id nodes A n c rows _ (HL.out.up hb0) (by omega)).mono ?_; rintro e w1 ⟨v1, rfl, hown1, hb1⟩; obtain ⟨iA, ic, rfl, hri⟩ := nmQ hown1 HN.out (by omega))
  refine wp_two (fun W1 hW1 => ?_)
  obtain ⟨g6, hg6⟩ : ∃ g, g = w1.heap.size := ⟨_, rfl⟩
  have h1W : Below w1.heap.size w1 W1 := by rw [hW1]; exact bel_alloc (Below.refl _ _)
  have h01 : Below W0.heap.size W0 W1 := bel_trans hb1 h1W
  have HI1 : Hid (Blk W1 g6 24 [.int .i64 id, .int .i64 nodes, .slice iA n ic]) := Lib.hid (by rw [hW1, hg6]; exact Blk.new w1 24 [.int .i64 id, .int .i64 nodes, .slice iA n ic])
  have HRI1 : Hid (RowsR W1 iA n rows) := Lib.hid (hri.up h1W)
  have HF1 := Lib.hid (HB0.out.1.up h01)
  have HA1 := Lib.hid (HB0.out.2.1.up h01)
  have HR1 := Lib.hid (HB0.out.2.2.up h01)
  have hbw1 := bel_trans hb0 h01
  have hg60 : w.heap.size + 3 ≤ g6 := by rw [hg6]; have := hb1.size; omega
  rw [← hg6]
  have HIO : Hid (∀ g, (Value.slice iA n ic).ownBlock = some g → g < g6) := Lib.hid (fun g e => by rw [hg6]; exact (own_lt hown1 g e).2)
  have HO1 : Hid (OwnQ W1 (w.heap.size + 3) (.slice iA n ic) rows) := Lib.hid ((hown1.mono (by omega)).up h1W)
  clear hW1 hg6 hown1 hri hb1 h1W h01 HB0 hb0 hs0 xl x_0 x_1 x_2
  have xl := HF1.out.lt
  have x_0 := (HF1.out.box).2 0 _ rfl; have x_1 := (HF1.out.box).2 1 _ rfl; have x_2 := (HF1.out.box).2 2 _ rfl
  go_upto_region 3 with (go_at_call 22; refine (ref21_May id nodes rows A n c true _ (HL.out.up hbw1) HM.out).mono ?_; rintro e w2 ⟨rfl, hb2⟩)
  clear xl x_0 x_1 x_2
  go_upto_region 7 with fail
  refine wp_two (fun W2 hW2 => ?_)
  obtain ⟨g8, hg8⟩ : ∃ g, g = w2.heap.size := ⟨_, rfl⟩
  have h2W : Below w2.heap.size w2 W2 := by rw [hW2]; (repeat (first | (with_reducible exact Below.refl _ _) | (with_reducible assumption) | (with_reducible apply bel_alloc) | (with_reducible apply bel_drew) | (with_reducible apply bel_drewN) | (with_reducible refine bel_trans ?_ (by with_reducible assumption)) | (with_reducible refine bel_trans ?_ (HF.out _)) | (with_reducible refine bel_set ?_ (by simp) _) | (with_reducible refine bel_set ?_ (by simp; omega) _) | (with_reducible refine bel_set ?_ (by omega) _)))
  have HW2 : Hid (Blk W2 g8 24 [.int .i64 0, .int .i64 0, .slice none 0 0]) := Lib.hid (by rw [hW2, hg8]; exact (Blk.new w2 24 [.int .i64 0, .int .i64 0, .slice none 0 0]).up (bel_alloc (Below.refl _ _)))
  have HX2 : Hid (Blk W2 (g8 + 1) 24 [.int .i64 0, .int .i64 0, .slice none 0 0]) := Lib.hid (by rw [hW2, hg8]; simpa using Blk.new (w2.alloc (.cells #[.int .i64 0, .int .i64 0, .slice none 0 0] 24)) 24 [.int .i64 0, .int .i64 0, .slice none 0 0])
  have hg86 : g6 < g8 := by rw [hg8]; exact Nat.lt_of_lt_of_le HI1.out.lt hb2.size
  have h12 : Below W1.heap.size W1 W2 := bel_trans hb2 h2W
  have HF2 := Lib.hid (HF1.out.up h12)
  have HA2 := Lib.hid (HA1.out.up h12)
  have HI2 := Lib.hid (HI1.out.up h12)
  have HO2 := Lib.hid (HO1.out.up h12)
  have HR2 := Lib.hid (HR1.out.up h12)
  have hbw2 := bel_trans hbw1 h12
  rw [← hg8]
  clear hW2 hg8 h2W h12 hb2 HF1 HA1 HI1 HRI1 HO1 HR1 hbw1
  have xl := HF2.out.lt
  have x_0 := (HF2.out.box).2 0 _ rfl; have x_1 := (HF2.out.box).2 1 _ rfl; have x_2 := (HF2.out.box).2 2 _ rfl
  have al := HA2.out.lt
  have a_0 := (HA2.out.box).2 0 _ rfl; have a_1 := (HA2.out.box).2 1 _ rfl; have a_2 := (HA2.out.box).2 2 _ rfl; have a_3 := (HA2.out.box).2 3 _ rfl
  have wl := HW2.out.lt
  have wf := HW2.out.frozen
  have q_0 := (HW2.out.box).2 0 _ rfl; have q_1 := (HW2.out.box).2 1 _ rfl; have q_2 := (HW2.out.box).2 2 _ rfl
  have hr3 : (r == 3) = false := by simpa using hr.1
  have hr4 : (r == 4) = false := by simpa using hr.2.1
  have hr5 : (r == 5) = false := by simpa using hr.2.2
  have hgs : g8 + 2 ≤ W2.heap.size := HX2.out.lt
  go_upto_region 11 with (first | (go_at_call 16; refine (law0_Within dv 6 r _ (by omega) (by omega) HW.out).mono ?_; rintro e w' ⟨rfl, rfl⟩) | (go_at_call 50; refine (ref21_Kind _ _ _ HK.out).mono ?_; rintro e w' ⟨rfl, rfl⟩) | (go_at_call 51; refine (refd_Digests _ _ _ _ _ _ (HC.out.up hbw2) HD.out).mono ?_; rintro e w' ⟨rfl, rfl⟩))
  clear xl x_0 x_1 x_2 al a_0 a_1 a_2 a_3 wl wf q_0 q_1 q_2 hr3 hr4 hr5
  obtain ⟨S, hSd⟩ : ∃ S : World → Prop, S = fun Q => Q.rangeAt g6 0 [.int .i64 id, .int .i64 nodes, .slice iA n ic] ∧ Q.rangeAt (w.heap.size + 1) 0 [.int .i64 dv, .int .i64 ak, .int .i64 ag, .slice C m dd] := ⟨_, rfl⟩
  have hS1 : ∀ Q, S Q → Q.rangeAt g6 0 [.int .i64 id, .int .i64 nodes, .slice iA n ic] := fun Q h => by rw [hSd] at h; exact h.1
  have hS2 : ∀ Q, S Q → Q.cell? ⟨w.heap.size + 1, 1, none⟩ = some (.int .i64 ak) := fun Q h => by rw [hSd] at h; exact h.2 1 _ rfl
  have hS3 : ∀ Q, S Q → Q.cell? ⟨w.heap.size + 1, 3, none⟩ = some (.slice C m dd) := fun Q h => by rw [hSd] at h; exact h.2 3 _ rfl
  have hS : ∀ Q, Blk Q g6 24 [.int .i64 id, .int .i64 nodes, .slice iA n ic] → Blk Q (w.heap.size + 1) 62 [.int .i64 dv, .int .i64 ak, .int .i64 ag, .slice C m dd] → S Q := fun Q h1 h2 => by rw [hSd]; exact ⟨Blk.rngQ h1, Blk.rngQ h2⟩
  clear hSd
  have hbd : Below W2.heap.size W2 W2.drew := bel_drew (Below.refl _ _)
  refine wp_region_held_drew (S := S) (by kernel_rfl) (hS _ (HI2.out.up hbd) (HA2.out.up hbd)) (fun hHeld => ?_)
  generalize W2.drew = Z at *
  refine wpAnyH_takeD (i := 0) (d := (some 44)) (v := .agg ([.int .i64 id, .int .i64 nodes, .slice iA n ic]).toArray) rfl rfl (by kernel_rfl) (by kernel_rfl) (by kernel_rfl) (fun _ _ _ h => h) (yieldsIf_load_mid (by rfl) 24 _ rfl g6 0 (by simp [Act.eval, Act.put]) ([.int .i64 id, .int .i64 nodes, .slice iA n ic]) _ (hS1) Try.underlying24 (by rfl) (by kernel_rfl)) (by assumption) ?_
  simp only [Act.put, List.setIfInBounds_toArray, List.set_cons_zero, List.set_cons_succ]
  (refine wpAnyH_tk 1 (some 45) (v := ?_) rfl rfl ?_ ?_; rotate_left; (focus (intro wq hSw; clear hSw; go_simp; all_goals (with_reducible rfl))); simp only [Act.put, List.setIfInBounds_toArray, List.set_cons_zero, List.set_cons_succ])
  (refine wpAnyH_tk 2 (some 46) (v := ?_) rfl rfl ?_ ?_; rotate_left; (focus (intro wq hSw; have q1 := hS2 wq hSw; clear hSw; go_simp; all_goals (with_reducible rfl))); simp only [Act.put, List.setIfInBounds_toArray, List.set_cons_zero, List.set_cons_succ])
  (refine wpAnyH_tk 3 (some 47) (v := ?_) rfl rfl ?_ ?_; rotate_left; (focus (intro wq hSw; clear hSw; go_simp; all_goals (with_reducible rfl))); simp only [Act.put, List.setIfInBounds_toArray, List.set_cons_zero, List.set_cons_succ])
  (refine wpAnyH_tk 4 (some 48) (v := ?_) rfl rfl ?_ ?_; rotate_left; (focus (intro wq hSw; have q1 := hS3 wq hSw; clear hSw; go_simp; all_goals (with_reducible rfl))); simp only [Act.put, List.setIfInBounds_toArray, List.set_cons_zero, List.set_cons_succ])
  refine wpAnyH_ready (rs := [5]) (by kernel_rfl) (by simp) ?_
  refine AllReadyH.cons (o := _) rfl (fun K hK => ?_) AllReadyH.nil
  go_simp
  (go_at_call 53; refine (ref0_CopyNumbers C m dd lst _ (HC.out.up (bel_trans hbw2 hbd)) (by omega)).mono ?_; rintro e w5 ⟨v5, rfl, ho5, hb5⟩)
  obtain ⟨lA, lc, rfl, hli⟩ := nmI ho5 HCN.out (by omega)
  have hbb := bel_trans hbd hb5
  have HLI := Lib.hid hli
  have hs35 := hbb.size
  clear hli ho5
  refine hK.out _ _ (hS _ (HI2.out.up hbb) (HA2.out.up hbb)) (fun hHeld => ?_)
  clear hK K
  (try simp only [Act.put, List.setIfInBounds_toArray, List.set_cons_zero, List.set_cons_succ])
  refine wpAnyH_ready (rs := [6]) (by kernel_rfl) (by simp) ?_
  refine AllReadyH.cons (o := _) rfl (fun K hK => ?_) AllReadyH.nil
  go_simp
  (go_at_call 10; refine (fetch_Want_bad id nodes ak iA n ic rows lA m lc lst _ (OwnQ.rowsR (HO2.out.up hbb) HN.out (by omega)) HLI.out HNB.out).mono ?_; rintro e w4 ⟨rfl, hb6⟩)
  have hb4 := bel_trans hbb hb6
  refine hK.out _ _ (hS _ (HI2.out.up hb4) (HA2.out.up hb4)) (fun hHeld => ?_)
  clear hK K
  (try simp only [Act.put, List.setIfInBounds_toArray, List.set_cons_zero, List.set_cons_succ])
  (refine wpAnyH_tk 7 (some 43) (v := ?_) rfl rfl ?_ ?_; rotate_left; (focus (intro wq hSw; clear hSw; go_simp; all_goals (with_reducible rfl))); simp only [Act.put, List.setIfInBounds_toArray, List.set_cons_zero, List.set_cons_succ])
  (refine wpAnyH_tk 8 (some 51) (v := ?_) rfl rfl ?_ ?_; rotate_left; (focus (intro wq hSw; clear hSw; go_simp; all_goals (with_reducible rfl))); simp only [Act.put, List.setIfInBounds_toArray, List.set_cons_zero, List.set_cons_succ])
  (refine wpAnyH_tk 9 (some 52) (v := ?_) rfl rfl ?_ ?_; rotate_left; (focus (intro wq hSw; clear hSw; go_simp; all_goals (with_reducible rfl))); simp only [Act.put, List.setIfInBounds_toArray, List.set_cons_zero, List.set_cons_succ])
  (refine wpAnyH_tk 10 (some 53) (v := ?_) rfl rfl ?_ ?_; rotate_left; (focus (intro wq hSw; clear hSw; go_simp; all_goals (with_reducible rfl))); simp only [Act.put, List.setIfInBounds_toArray, List.set_cons_zero, List.set_cons_succ])
  refine wpAnyH_ready (rs := [11]) (by kernel_rfl) (by simp) ?_
  refine AllReadyH.cons (o := _) rfl (fun K hK => ?_) AllReadyH.nil
  have hy4 := HX2.out.up hb4
  have yl := hy4.lt
  have yf := hy4.frozen
  have y_0 := (hy4.box).2 0 _ rfl; have y_1 := (hy4.box).2 1 _ rfl; have y_2 := (hy4.box).2 2 _ rfl
  go_simp
  clear hy4 yl yf y_0 y_1 y_2
  refine hK.out _ _ (hS _ ((HI2.out.up hb4).far3 (b := g8 + 1) (by omega) _ _ _) ((HA2.out.up hb4).far3 (b := g8 + 1) (by omega) _ _ _)) (fun hHeld => ?_)
  clear hK K
  (try simp only [Act.put, List.setIfInBounds_toArray, List.set_cons_zero, List.set_cons_succ])
  (refine wpAnyH_tk 12 (some 12) (v := ?_) rfl rfl ?_ ?_; rotate_left; (focus (intro wq hSw; clear hSw; go_simp; all_goals (with_reducible rfl))); simp only [Act.put, List.setIfInBounds_toArray, List.set_cons_zero, List.set_cons_succ])
  (refine wpAnyH_tk 13 (some 13) (v := ?_) rfl rfl ?_ ?_; rotate_left; (focus (intro wq hSw; clear hSw; go_simp; all_goals (with_reducible rfl))); simp only [Act.put, List.setIfInBounds_toArray, List.set_cons_zero, List.set_cons_succ])
  refine wpAnyH_done (by kernel_rfl) ?_ _
  go_upto_region 24 with fail
  refine wp_two (fun W4 hW4 => ?_)
  have HX4 : Hid (Blk W4 (g8 + 1) 24 [.int .i64 0, .int .i64 0, .slice none 0 0]) := Lib.hid (by rw [hW4]; exact (HX2.out.up hb4).put3 _ _ _)
  have HW4 : Hid (Blk W4 g8 24 [.int .i64 0, .int .i64 0, .slice none 0 0]) := Lib.hid (by rw [hW4]; exact (HW2.out.up hb4).far3 (by omega) _ _ _)
  have HF4 : Hid (Blk W4 w.heap.size 24 [.int .i64 id, .int .i64 nodes, .slice A n c]) := Lib.hid (by rw [hW4]; exact (HF2.out.up hb4).far3 (by omega) _ _ _)
  have HI4 : Hid (Blk W4 g6 24 [.int .i64 id, .int .i64 nodes, .slice iA n ic]) := Lib.hid (by rw [hW4]; exact (HI2.out.up hb4).far3 (by omega) _ _ _)
  have HR4 : Hid (Blk W4 (w.heap.size + 2) 24 [.int .i64 0, .int .i64 0, .slice none 0 0]) := Lib.hid (by rw [hW4]; exact (HR2.out.up hb4).far3 (by omega) _ _ _)
  have hne8 : (Value.slice iA n ic).ownBlock ≠ some (g8 + 1) := fun e => by have := HIO.out _ e; omega
  have HO4 : Hid (OwnQ W4 (w.heap.size + 3) (.slice iA n ic) rows) := Lib.hid (by rw [hW4]; exact (((HO2.out.up hb4).setAp hne8).setAp hne8).setAp hne8)
  have hbW4 : Below w.heap.size w W4 := by rw [hW4]; exact bel_set3 (bel_set3 (bel_set3 (bel_trans hbw2 hb4) (by omega)) (by omega)) (by omega)
  clear hW4 HX2 HW2 HF2 HI2 HR2 hne8 HO2
  have il := HI4.out.lt
  have i_0 := (HI4.out.box).2 0 _ rfl; have i_1 := (HI4.out.box).2 1 _ rfl; have i_2 := (HI4.out.box).2 2 _ rfl
  have yl := HX4.out.lt
  have y_0 := (HX4.out.box).2 0 _ rfl; have y_1 := (HX4.out.box).2 1 _ rfl; have y_2 := (HX4.out.box).2 2 _ rfl
  have wl := HW4.out.lt
  have q_0 := (HW4.out.box).2 0 _ rfl; have q_1 := (HW4.out.box).2 1 _ rfl; have q_2 := (HW4.out.box).2 2 _ rfl
  have xl := HF4.out.lt
  have x_0 := (HF4.out.box).2 0 _ rfl; have x_1 := (HF4.out.box).2 1 _ rfl; have x_2 := (HF4.out.box).2 2 _ rfl
  go_upto_region 25 with (first
    | (go_at_call 11; refine (law21_num _ _).mono ?_; rintro e w' ⟨rfl, rfl⟩)
    | (go_at_call 13; refine (ref0_EqFetch id nodes iA n ic A n c rows _ ((by obtain ⟨A', c', e', h'⟩ := nmQ HO4.out HN.out (by omega); injection e' with e1 e2 e3; subst e1; exact h' : RowsR W4 iA n rows).up hb6) (HL.out.up (bel_trans hbW4 hb6))).mono ?_; rintro e w7 ⟨rfl, hb7⟩; have hb47 := bel_trans hb6 hb7; clear il i_0 i_1 i_2 xl x_0 x_1 x_2; have hX7 := HX4.out.up hb47; have yl := hX7.lt; have y_0 := (hX7.box).2 0 _ rfl; have y_1 := (hX7.box).2 1 _ rfl; have y_2 := (hX7.box).2 2 _ rfl; clear hX7)
    | (go_at_call 13; refine (ref0_EqFetch 0 0 none 0 0 none 0 0 [] _ (RowsR.nil _ _) (RowsR.nil _ _)).mono ?_; rintro e w5 ⟨rfl, hb5⟩; clear il i_0 i_1 i_2 yl y_0 y_1 y_2 wl q_0 q_1 q_2 xl x_0 x_1 x_2; have hI5 := HI4.out.up hb5; have il := hI5.lt; have i_0 := (hI5.box).2 0 _ rfl; have i_1 := (hI5.box).2 1 _ rfl; have i_2 := (hI5.box).2 2 _ rfl; clear hI5; have hF5 := HF4.out.up hb5; have xl := hF5.lt; have x_0 := (hF5.box).2 0 _ rfl; have x_1 := (hF5.box).2 1 _ rfl; have x_2 := (hF5.box).2 2 _ rfl; clear hF5)
    | (go_at_call 54; refine (ref0_EqMessages _ _ _ _ _ _ [] _ (MsgsR.nil _) (MsgsR.nil _)).mono ?_; rintro e w6 ⟨rfl, hb65⟩; have hb6 := bel_trans hb5 hb65; clear il i_0 i_1 i_2 xl x_0 x_1 x_2; have hI6 := HI4.out.up hb6; have il := hI6.lt; have i_0 := (hI6.box).2 0 _ rfl; have i_1 := (hI6.box).2 1 _ rfl; have i_2 := (hI6.box).2 2 _ rfl; clear hI6; have hF6 := HF4.out.up hb6; have xl := hF6.lt; have x_0 := (hF6.box).2 0 _ rfl; have x_1 := (hF6.box).2 1 _ rfl; have x_2 := (hF6.box).2 2 _ rfl; clear hF6))
  have hs40 : w.heap.size + 2 < W4.heap.size := HR4.out.lt
  have hs46 : g6 < W4.heap.size := HI4.out.lt
  have hs48 : g8 < W4.heap.size := HW4.out.lt
  have hbs4 := hb47.size
  go_upto_region 26 with (go_at_call 55; refine (law0_RowsS ⟨none, 0, 0⟩ W4.heap.size _ (.inl rfl) (by decide) hbs4).mono ?_; rintro e w8 ⟨rfl, hb8, hk8⟩)
  clear yl y_0 y_1 y_2
  have hbs8 := hb8.size
  go_upto_region 27 with (go_at_call 56; refine (law0_MessagesS ⟨none, 0, 0⟩ W4.heap.size _ (.inl rfl) (by decide) (by omega)).mono ?_; rintro e w9 ⟨rfl, hb9, hk9⟩)
  have HF9 : Hid (Blk w9 w.heap.size 24 [.int .i64 id, .int .i64 nodes, .slice A n c]) := Lib.hid (((HF4.out.up hb47).below hb8 (by omega)).below hb9 (by omega))
  have HI9 : Hid (Blk w9 g6 24 [.int .i64 id, .int .i64 nodes, .slice iA n ic]) := Lib.hid (((HI4.out.up hb47).below hb8 (by omega)).below hb9 (by omega))
  have HR9 : Hid (Blk w9 (w.heap.size + 2) 24 [.int .i64 0, .int .i64 0, .slice none 0 0]) := Lib.hid (((HR4.out.up hb47).below hb8 (by omega)).below hb9 (by omega))
  have HO9 : Hid (OwnQ w9 (w.heap.size + 3) (.slice iA n ic) rows) := Lib.hid (own_of_heap (HO4.out.up hb47) (fun g hg => by have := HIO.out g hg; rw [hb9.block g (by omega), hb8.block g (by omega)]))
  have hbw9 : Below w.heap.size w w9 := ((bel_trans hbW4 hb47).trans (hb8.mono (by omega))).trans (hb9.mono (by omega))
  clear HF4 HI4 HR4 HO4 HX4 HW4
  go_upto_region 28 with fail
  obtain ⟨S, hSd⟩ : ∃ S : World → Prop, S = fun Q => Q.rangeAt g6 0 [.int .i64 id, .int .i64 nodes, .slice iA n ic] ∧ Q.rangeAt w.heap.size 0 [.int .i64 id, .int .i64 nodes, .slice A n c] := ⟨_, rfl⟩
  have hS2 : ∀ Q, S Q → Q.rangeAt g6 0 [.int .i64 id, .int .i64 nodes, .slice iA n ic]  := fun Q h => by rw [hSd] at h; exact h.1
  have hS3 : ∀ Q, S Q → Q.rangeAt w.heap.size 0 [.int .i64 id, .int .i64 nodes, .slice A n c] := fun Q h => by rw [hSd] at h; exact h.2
  have hS : ∀ Q, Blk Q g6 24 [.int .i64 id, .int .i64 nodes, .slice iA n ic] → Blk Q w.heap.size 24 [.int .i64 id, .int .i64 nodes, .slice A n c] → S Q := fun Q h2 h3 => by rw [hSd]; exact ⟨Blk.rngQ h2, Blk.rngQ h3⟩
  clear hSd
  have hbd : Below w9.heap.size w9 w9.drew := bel_drew (Below.refl _ _)
  refine wp_region_held_drew (S := S) (by kernel_rfl) (hS _ (HI9.out.up hbd) (HF9.out.up hbd)) (fun hHeld => ?_)
  generalize w9.drew = Z at *
  refine wpAnyH_takeD (i := 0) (d := (some 119)) (v := .agg ([.int .i64 id, .int .i64 nodes, .slice A n c]).toArray) rfl rfl (by kernel_rfl) (by kernel_rfl) (by kernel_rfl) (fun _ _ _ h => h) (yieldsIf_load_mid (by rfl) 24 _ rfl w.heap.size 0 (by simp [Act.eval, Act.put]) ([.int .i64 id, .int .i64 nodes, .slice A n c]) _ (hS3) Try.underlying24 (by rfl) (by kernel_rfl)) (by assumption) ?_
  simp only [Act.put, List.setIfInBounds_toArray, List.set_cons_zero, List.set_cons_succ]
  (refine wpAnyH_tk 1 (some 120) (v := ?_) rfl rfl ?_ ?_; rotate_left; (focus (intro wq hSw; clear hSw; go_simp; all_goals (with_reducible rfl))); simp only [Act.put, List.setIfInBounds_toArray, List.set_cons_zero, List.set_cons_succ])
  (refine wpAnyH_tk 2 (some 121) (v := ?_) rfl rfl ?_ ?_; rotate_left; (focus (intro wq hSw; clear hSw; go_simp; all_goals (with_reducible rfl))); simp only [Act.put, List.setIfInBounds_toArray, List.set_cons_zero, List.set_cons_succ])
  refine wpAnyH_takeD (i := 3) (d := (some 122)) (v := .agg ([.int .i64 id, .int .i64 nodes, .slice iA n ic]).toArray) rfl rfl (by kernel_rfl) (by kernel_rfl) (by kernel_rfl) (fun _ _ _ h => h) (yieldsIf_load_mid (by rfl) 24 _ rfl g6 0 (by simp [Act.eval, Act.put]) ([.int .i64 id, .int .i64 nodes, .slice iA n ic]) _ (hS2) Try.underlying24 (by rfl) (by kernel_rfl)) (by assumption) ?_
  simp only [Act.put, List.setIfInBounds_toArray, List.set_cons_zero, List.set_cons_succ]
  refine wpAnyH_takeD (i := 4) (d := (some 123)) (v := .agg ([.int .i64 id, .int .i64 nodes, .slice A n c]).toArray) rfl rfl (by kernel_rfl) (by kernel_rfl) (by kernel_rfl) (fun _ _ _ h => h) (yieldsIf_load_mid (by rfl) 24 _ rfl w.heap.size 0 (by simp [Act.eval, Act.put]) ([.int .i64 id, .int .i64 nodes, .slice A n c]) _ (hS3) Try.underlying24 (by rfl) (by kernel_rfl)) (by assumption) ?_
  simp only [Act.put, List.setIfInBounds_toArray, List.set_cons_zero, List.set_cons_succ]
  refine wpAnyH_ready (rs := [5]) (by kernel_rfl) (by simp) ?_
  refine AllReadyH.cons (o := _) rfl (fun K hK => ?_) AllReadyH.nil
  go_simp
  (go_at_call 13; refine (ref0_EqFetch id nodes iA n ic A n c rows _ (by obtain ⟨A', c', e', h'⟩ := nmQ (HO9.out.up hbd) HN.out (by omega); injection e' with e1 e2 e3; subst e1; exact h') (HL.out.up (bel_trans hbw9 hbd))).mono ?_; rintro e wE ⟨rfl, hbE⟩)
  have hbb := bel_trans hbd hbE
  refine hK.out _ _ (hS _ (HI9.out.up hbb) (HF9.out.up hbb)) (fun hHeld => ?_)
  clear hK K
  (try simp only [Act.put, List.setIfInBounds_toArray, List.set_cons_zero, List.set_cons_succ])
  (refine wpAnyH_tk 6 (some 125) (v := ?_) rfl rfl ?_ ?_; rotate_left; (focus (intro wq hSw; clear hSw; go_simp; all_goals (with_reducible rfl))); simp only [Act.put, List.setIfInBounds_toArray, List.set_cons_zero, List.set_cons_succ])
  refine wpAnyH_ready (rs := [7]) (by kernel_rfl) (by simp) ?_
  refine AllReadyH.cons (o := _) rfl (fun K hK => ?_) AllReadyH.nil
  have hG5 := HR9.out.up hbb
  have gl := hG5.lt
  have gf := hG5.frozen
  have g_0 := (hG5.box).2 0 _ rfl; have g_1 := (hG5.box).2 1 _ rfl; have g_2 := (hG5.box).2 2 _ rfl
  go_simp
  clear gl gf g_0 g_1 g_2
  refine hK.out _ _ (hS _ ((HI9.out.up hbb).far3 (b := w.heap.size + 2) (by omega) _ _ _) ((HF9.out.up hbb).far3 (b := w.heap.size + 2) (by omega) _ _ _)) (fun hHeld => ?_)
  clear hK K
  (try simp only [Act.put, List.setIfInBounds_toArray, List.set_cons_zero, List.set_cons_succ])
  (refine wpAnyH_tk 8 (some 5) (v := ?_) rfl rfl ?_ ?_; rotate_left; (focus (intro wq hSw; clear hSw; go_simp; all_goals (with_reducible rfl))); simp only [Act.put, List.setIfInBounds_toArray, List.set_cons_zero, List.set_cons_succ])
  refine wpAnyH_done (by kernel_rfl) ?_ _
  have hG6 := hG5.put3 (.int .i64 id) (.int .i64 nodes) (.slice A n c)
  have gl := hG6.lt
  have g_0 := (hG6.box).2 0 _ rfl; have g_1 := (hG6.box).2 1 _ rfl; have g_2 := (hG6.box).2 2 _ rfl
  go_wp2_with fail
  refine bodyPost_ret (v := .tuple #[.agg #[.int .i64 id, .int .i64 nodes, .slice A n c], .bool true]) (by simp [results, Try.results24, go_sem, g_0, g_1, g_2]) rfl ⟨⟨id, nodes, ⟨A, n, c⟩, rows, rfl, HL.out.up (bel_set3 (bel_set3 (bel_set3 (bel_trans hbw9 hbb) (by omega)) (by omega)) (by omega)), by show n ≤ 1000000; omega⟩, bel_set3 (bel_set3 (bel_set3 (bel_trans hbw9 hbb) (by omega)) (by omega)) (by omega)⟩
end Go.Proofs.Ytnngeaibdnnpoaa
namespace Go.Proofs.Ytnngeaibdnnpoaa
open Go.RowKit
set_option linter.unusedSimpArgs false
set_option linter.unusedVariables false

set_option maxRecDepth 100000 in
set_option maxHeartbeats 4000000 in
theorem law_FetchWants (P : FScrP) (D : FScrD) (w : World) (h : FScrR w P D) :
    Calls Try.prog 4 #[P.val D] w fun e w' => e = .returned (.bool true) ∧ Below w.heap.size w w' := by
  have H := Lib.hid h
  clear h
  have hstep : ∀ (C : Option Addr) (m d : Nat) (a : FActD) (X : World), Below w.heap.size w X → LightF D → a.l.length ≤ 2000 → IntsR X C m a.l →
      Calls Try.prog 24 #[.agg #[.int .i64 D.f.id, .int .i64 D.f.nodes, .slice P.r.A P.r.n P.r.c], .agg #[.int .i64 0, .int .i64 a.k, .int .i64 a.g, .slice C m d]] X fun e w' => (∃ x0 x1 : Int, ∃ s : SlP, e = .returned (.tuple #[.agg #[.int .i64 x0, .int .i64 x1, .slice s.A s.n s.c], .bool true])) ∧ Below X.heap.size X w' := by
    intro C m d a X hX hL hal hC
    have hr := H.out.r.up hX
    have hout : ∀ {e : Ending} {w' : World}, StepR w' e ∧ Below X.heap.size X w' → (∃ x0 x1 : Int, ∃ s : SlP, e = .returned (.tuple #[.agg #[.int .i64 x0, .int .i64 x1, .slice s.A s.n s.c], .bool true])) ∧ Below X.heap.size X w' := fun ⟨⟨x0, x1, s, _, e, _⟩, hb⟩ => ⟨⟨x0, x1, s, e⟩, hb⟩
    have hn : P.r.n ≤ 1000000 := by have h9 := hL.1; rw [← hr.1]; omega
    have hm : m ≤ 2000 := by rw [← hC.1]; exact hal
    have hr3 : ¬ (0 : Int) = 3 ∧ ¬ (0 : Int) = 4 ∧ ¬ (0 : Int) = 5 := by decide
    have hd : wiI 0 6 = 0 := by decide
    cases hM : mayF ⟨D.f.id, D.f.nodes, D.f.rows⟩ with
    | false => exact (stepW_may _ _ _ _ _ _ 0 _ _ C m d 0 hr3 a.l X hr hM hd hC hm hn (by rw [hM]; simp)).mono fun _ _ h => hout h
    | true =>
      cases hK : kdS a.k with
      | false => exact (stepW_kind _ _ _ _ _ _ 0 _ _ C m d 0 hr3 a.l X hr hM hd hC hm hn (by rw [hK]; simp) hK).mono fun _ _ h => hout h
      | true =>
        cases hD : betS a.l 1 65536 with
        | false => exact (stepW_digs _ _ _ _ _ _ 0 _ _ C m d 0 hr3 a.l X hr hM hd hC hm hn (by rw [hD]; simp) hK hD).mono fun _ _ h => hout h
        | true => exact (stepW_ok _ _ _ _ _ _ 0 _ _ C m d 0 hr3 a.l X hr hM hd hC hm hK hD).mono fun _ _ h => hout h
  show Calls Try.prog 4 #[.agg #[.int .i64 D.f.id, .int .i64 D.f.nodes, .slice P.r.A P.r.n P.r.c, .slice P.l.A P.l.n P.l.c]] w fun e w' => e = .returned (.bool true) ∧ Below w.heap.size w w'
  go_enter Try.func4, Try.ntmps4
  go_wp2_with fail
  have hbX : Below w.heap.size w (w.alloc (.cells #[.int .i64 D.f.id, .int .i64 D.f.nodes, .slice P.r.A P.r.n P.r.c, .slice P.l.A P.l.n P.l.c] 27)) := by (repeat (first | (with_reducible exact Below.refl _ _) | (with_reducible assumption) | (with_reducible apply bel_alloc) | (with_reducible apply bel_drew) | (with_reducible apply bel_drewN) | (with_reducible refine bel_trans ?_ (by with_reducible assumption)) | (with_reducible refine bel_trans ?_ (HF.out _)) | (with_reducible refine bel_set ?_ (by simp) _) | (with_reducible refine bel_set ?_ (by simp; omega) _) | (with_reducible refine bel_set ?_ (by omega) _)))
  refine (law21_only P D 0 _ (H.out.up hbX) (fun C m d a X hX hL ha hc => hstep C m d a X (bel_trans hbX hX) hL ha hc)).mono ?_
  rintro e w1 ⟨rfl, hb1⟩
  go_wp2_with fail
  go_ret
  exact ⟨rfl, bel_trans hbX hb1⟩
end Go.Proofs.Ytnngeaibdnnpoaa
namespace Go.Proofs.Ytnngeaibdnnpoaa
open Go.ChangeShapes Go.WideShapes Go.ChangeAt Go.RowKit
set_option linter.unusedVariables false

theorem fetchWants_own : ownKnob Try.prog.godebug = none := by kernel_rfl
theorem fetchWants_laidOut : laidOutB Try.prog = true := by kernel_rfl
set_option maxRecDepth 100000 in
theorem fetchWants_lifted (os : Os) (started : os.Started) (H : Type) (enc : TypeId × Value → H) :
    ReturnsInHanded {} Try.checked os 4 .any (Rows.fetchWantsSpec.pre6 enc Try.prog Try.f4 Rows.fetchWantsRow.domain false) (Rows.fetchWantsSpec.post enc Try.prog Try.f4 false true false false) := by
  refine returnsInHanded_of_change_sized (C := Try.checked) fetchWants_own started (by kernel_rfl) Try.func4
    (ChangeSpec.witness6 (enc := enc) (C := Try.checked) false ⟨#[], #[.agg #[.int .i64 0, .int .i64 0, .slice none 0 0, .slice none 0 0]], []⟩ 8 (by kernel_rfl) (by kernel_rfl) (by kernel_rfl) (by kernel_rfl)) ?_
  intro W base args ds gs before hval0 hW hcnd hsz0 _
  have hval : ∀ (j : Nat) t v, Try.f4.params[j]? = some t → args[j]? = some v → Value.okWide Try.prog W .any base t v := hval0
  have hW' := hW
  obtain ⟨p, q, hA0, hV, rfl, hfz, hnd⟩ := hW
  have hA : DataW.TrodAll enc Try.prog W 0 (fun _ => true) true Try.f4.params.toList args.toList ds p := hA0
  have hsz : (DataW.weightsEach Try.prog (Try.f4.params.toList ++ Rows.fetchWantsSpec.plain.varTypes Try.prog) (ds ++ gs)).all (· ≤ reachBytes) = true := hsz0
  rw [Try.params4] at hA hval hsz
  obtain ⟨v0, vs0, d0, ds0, p0, q0, hargs, rfl, rfl, h0, r0⟩ := trodAll_cons hA
  obtain ⟨rfl, rfl, rfl⟩ := trodAll_nil r0
  obtain rfl : args = #[v0] := by cases args; simp_all
  obtain ⟨rfl, rfl⟩ := trodVars_none hV
  have k0 := h0
  have lt0 : ∀ x ∈ p0, x.block < W.heap.size := by obtain ⟨m, hm⟩ := k0; exact DataW.trod_lt m _ _ _ hm
  have hwk : Wok 27 d0 := fun b hb => by
    have := List.all_eq_true.1 hsz b (DataW.weights_mem_each (j := 0) rfl rfl b hb)
    simpa using this
  obtain ⟨P, D, rfl, hR⟩ := open_FScr (hval 0 27 v0 rfl rfl) h0 hwk
  clear hA0 hval0 hsz0
  refine (law_FetchWants P D W hR).mono fun e W' ⟨he, bel⟩ => ?_
  subst he
  exact ⟨_, rfl, _, _, _, [], _, [], hW', trodAll_mk1 (shut_bool Try.underlying4 _), (trodAll_cons_mk (Below.trod fetchWants_laidOut (by kernel_rfl) (of_decide_eq_true (by kernel_rfl)) k0 bel lt0) trodAll_mk0), rfl, bel.frame _, fun h => by cases h⟩
theorem fetchWants_over : Rows.fetchWantsRow.holds Try.pinned (OpenSpec.ofChange Rows.fetchWantsSpec) :=
  OpenClaim.holds_of_wide 4 Try.f4 rfl rfl rfl rfl rfl rfl rfl ⟨rfl, rfl, rfl, rfl, rfl⟩ rfl rfl rfl rfl rfl (by kernel_rfl) Try.func4 (by kernel_rfl)
    (of_decide_eq_true (by kernel_rfl)) (by unfold Func.isWrapper; first | (rw [if_pos (by decide +kernel)]; kernel_rfl) | (rw [if_neg (by decide +kernel)]; exact ⟨rfl, rfl⟩))
    (fun os started H enc _ => fetchWants_lifted os started H enc)
/-- The statement. -/
theorem fetchWants_proved : Rows.FetchWantsSaid := fetchWants_over
#print axioms fetchWants_proved
end Go.Proofs.Ytnngeaibdnnpoaa
