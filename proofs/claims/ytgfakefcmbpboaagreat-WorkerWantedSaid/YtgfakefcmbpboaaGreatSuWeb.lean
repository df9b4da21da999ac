/- A message that may be: droverref4.Message. -/
import Derived.Test.YtgfakefcmbpboaaGreatSuWea
import Derived.Test.YtgfakefcmbpboaaGreatSuWh
import Derived.Deep.RegionHeld3
namespace Go.Proofs.YtgfakefcmbpboaaGreat
set_option linter.all false
set_option maxRecDepth 100000
open Go.RowKit

def bat0 : BatchD := ⟨0, 0, []⟩
def hea0 : HeaderD := ⟨0, 0, [], []⟩
def cer0 : CertD := ⟨⟨0, 0, [], []⟩, 0, []⟩
/-- What a message of its kind has, of what it says. -/
def onlyD (M : MsgD) : MsgD :=
  if M.ki = 1 ∨ M.ki = 3 then ⟨M.ki, M.fr, M.tt, M.di, M.b, hea0, cer0, []⟩
  else if M.ki = 2 then ⟨M.ki, M.fr, M.tt, M.di, bat0, hea0, cer0, []⟩
  else ⟨M.ki, M.fr, M.tt, 0, bat0, hea0, cer0, M.ds⟩
def okM (M : MsgD) (n : Int) : Prop :=
  if M.ki = 1 ∨ M.ki = 3 then digS M.di = true ∧ bmT M.b = true ∧ M.b.au ≤ n
  else if M.ki = 2 then digS M.di = true
  else 1 ≤ M.ds.length ∧ M.ds.length ≤ 16 ∧ crisS M.ds 1 65536 = true
def hdM (M : MsgD) (n : Int) : Prop := isS n = true ∧ 1 ≤ M.fr ∧ M.fr ≤ n ∧ 1 ≤ M.tt ∧ M.tt ≤ n ∧ M.fr ≠ M.tt
noncomputable def msgB (M : MsgD) (n : Int) : Bool := dec (hdM M n ∧ okM M n ∧ onlyD M = M)
theorem wp_world {F : World → Prop} {w : World} (h : ∀ W, W = w → F W) : F w := h w rfl
theorem Blk.rng {w : World} {g : Nat} {t : TypeId} {cs : List Value} (h : Blk w g t cs) : w.rangeAt g 0 cs := fun j u hu => by rw [Nat.zero_add]; exact h.box.2 j u hu
theorem Blk.new1 (w : World) (t t' : TypeId) (cs ds : List Value) : Blk ((w.alloc (.cells cs.toArray t)).alloc (.cells ds.toArray t')) (w.heap.size + 1) t' ds := by
  have h := Blk.new (w.alloc (.cells cs.toArray t)) t' ds
  rwa [show (w.alloc (.cells cs.toArray t)).heap.size = w.heap.size + 1 by simp] at h
theorem wpList_load_midG {P : Program} {ops : Array Oper} {rest : List Oper} {op : Oper} {a : Act} {w : World} {Q : Exit → Act → World → Prop} (hg : Region.wanted op (yielded ops a.tmps) = true) (ty : TypeId) (x : Operand) (ho : op.op = .load ty x)
    (b o : Nat) (hx : a.eval x = .pointer (some ⟨b, o, none⟩)) (cs : List Value) (d : TypeDesc) (hc : w.rangeAt b o cs)
    (hu : P.underlying ty = some d) (hd : d.isRow = true) (hi : (P.info? ty).map (·.size) = some cs.length)
    (h : wpList P ops Q rest (a.put op.dst (.agg cs.toArray)) w) : wpList P ops Q (op :: rest) a w :=
  wpList_step fun _ hK => by rw [if_pos hg]; exact wp_load_mid ty x ho b o hx cs d hc hu hd hi (hK _ _ h)
theorem HeaderR.nil (w : World) : HeaderR w ⟨⟨none, 0, 0⟩, ⟨none, 0, 0⟩⟩ hea0 := ⟨IntsR.nil _ _, IntsR.nil _ _⟩
theorem CertR.nil (w : World) : CertR w ⟨⟨⟨none, 0, 0⟩, ⟨none, 0, 0⟩⟩, ⟨none, 0, 0⟩⟩ cer0 := ⟨HeaderR.nil _, IntsR.nil _ _⟩
theorem msgB_iff {M : MsgD} {n : Int} {y : Bool} (h : msgB M n = y) : y = true ↔ (hdM M n ∧ okM M n ∧ onlyD M = M) := by rw [← h]; exact dec_iff
set_option maxHeartbeats 8000000 in
theorem ref4_Message_bad (P : MsgP) (M : MsgD) (n : Int) (w : World) (hp : MsgR w P M) (hy : ¬ hdM M n) :
    Calls Tryz.prog 90 #[M18 P M, .int .i64 n] w fun e w' => e = .returned (.bool false) ∧ Below w.heap.size w w' := by
  obtain ⟨⟨bA, bn, bc⟩, ⟨⟨xA, xn, xc⟩, ⟨yA, yn, yc⟩⟩, ⟨⟨⟨cA, cn, cd⟩, ⟨dA, dn, dc⟩⟩, ⟨sA, sn, sc⟩⟩, ⟨eA, en, ec⟩⟩ := P
  obtain ⟨ki, fr, tt, di, b, hh, cc, ds⟩ := M
  have HY : Hid (¬ (isS n = true ∧ 1 ≤ fr ∧ fr ≤ n ∧ 1 ≤ tt ∧ tt ≤ n ∧ fr ≠ tt)) := ħ hy
  clear hp hy
  show Calls Tryz.prog 90 #[.agg #[.int .i64 ki, .int .i64 fr, .int .i64 tt, .int .i64 di, .int .i64 b.au, .int .i64 b.n, .slice bA bn bc, .int .i64 hh.au, .int .i64 hh.ro, .slice xA xn xc, .slice yA yn yc, .int .i64 cc.h.au, .int .i64 cc.h.ro, .slice cA cn cd, .slice dA dn dc, .int .i64 cc.di, .slice sA sn sc, .slice eA en ec], .int .i64 n] w fun e w' => e = .returned (.bool false) ∧ Below w.heap.size w w'
  go_enter Tryz.func90, Tryz.ntmps90
  go_upto_region 2 with fail
  refine wp_world (fun W hW => ?_)
  have HBM : Hid (Blk W w.heap.size 49 [.int .i64 ki, .int .i64 fr, .int .i64 tt, .int .i64 di, .int .i64 b.au, .int .i64 b.n, .slice bA bn bc, .int .i64 hh.au, .int .i64 hh.ro, .slice xA xn xc, .slice yA yn yc, .int .i64 cc.h.au, .int .i64 cc.h.ro, .slice cA cn cd, .slice dA dn dc, .int .i64 cc.di, .slice sA sn sc, .slice eA en ec]) := ħ (by rw [hW]; exact (Blk.new w 49 [.int .i64 ki, .int .i64 fr, .int .i64 tt, .int .i64 di, .int .i64 b.au, .int .i64 b.n, .slice bA bn bc, .int .i64 hh.au, .int .i64 hh.ro, .slice xA xn xc, .slice yA yn yc, .int .i64 cc.h.au, .int .i64 cc.h.ro, .slice cA cn cd, .slice dA dn dc, .int .i64 cc.di, .slice sA sn sc, .slice eA en ec]).up (bel_alloc (Below.refl _ _)))
  have HBX : Hid (Blk W (w.heap.size + 1) 49 [.int .i64 ki, .int .i64 fr, .int .i64 tt, .int .i64 0, .int .i64 0, .int .i64 0, .slice none 0 0, .int .i64 0, .int .i64 0, .slice none 0 0, .slice none 0 0, .int .i64 0, .int .i64 0, .slice none 0 0, .slice none 0 0, .int .i64 0, .slice none 0 0, .slice none 0 0]) := ħ (by rw [hW]; exact Blk.new1 w 49 49 [.int .i64 ki, .int .i64 fr, .int .i64 tt, .int .i64 di, .int .i64 b.au, .int .i64 b.n, .slice bA bn bc, .int .i64 hh.au, .int .i64 hh.ro, .slice xA xn xc, .slice yA yn yc, .int .i64 cc.h.au, .int .i64 cc.h.ro, .slice cA cn cd, .slice dA dn dc, .int .i64 cc.di, .slice sA sn sc, .slice eA en ec] [.int .i64 ki, .int .i64 fr, .int .i64 tt, .int .i64 0, .int .i64 0, .int .i64 0, .slice none 0 0, .int .i64 0, .int .i64 0, .slice none 0 0, .slice none 0 0, .int .i64 0, .int .i64 0, .slice none 0 0, .slice none 0 0, .int .i64 0, .slice none 0 0, .slice none 0 0])
  have hb0 : Below w.heap.size w W := by rw [hW]; exact bel_alloc (bel_alloc (Below.refl _ _))
  clear hW
  have hsz : w.heap.size + 1 < W.heap.size := HBX.out.lt
  have m0 : W.cell? ⟨w.heap.size, 0, none⟩ = some (.int .i64 ki) := HBM.out.box.2 0 _ rfl
  have m1 : W.cell? ⟨w.heap.size, 1, none⟩ = some (.int .i64 fr) := HBM.out.box.2 1 _ rfl
  have m2 : W.cell? ⟨w.heap.size, 2, none⟩ = some (.int .i64 tt) := HBM.out.box.2 2 _ rfl
  have m3 : W.cell? ⟨w.heap.size, 3, none⟩ = some (.int .i64 di) := HBM.out.box.2 3 _ rfl
  have x3 : W.cell? ⟨w.heap.size + 1, 3, none⟩ = some (.int .i64 0) := HBX.out.box.2 3 _ rfl
  have f3 : W.frozen? ⟨w.heap.size + 1, 3, none⟩ = false := HBX.out.frozen 3
  obtain ⟨ys, hys⟩ : ∃ ys, isS n = ys := ⟨_, rfl⟩
  have HS := ħ hys
  rw [hys] at HY; clear hys
  cases ys
  · as_aux_lemma =>
    go_wp2_with (go_at_call 30; (with_reducible refine (refm_May n _ _ HS.out).mono ?_); rintro e w' ⟨rfl, rfl⟩)
    go_ret
    exact ⟨rfl, belB⟩
  by_cases q0 : 1 ≤ fr
  rotate_left
  · have b0 : decide (fr < 1) = true := by simp; omega
    as_aux_lemma =>
      go_wp2_with (go_at_call 30; (with_reducible refine (refm_May n _ _ HS.out).mono ?_); rintro e w' ⟨rfl, rfl⟩)
      go_ret
      exact ⟨rfl, belB⟩
  have b0 : decide (fr < 1) = false := by simp; omega
  by_cases q1 : fr ≤ n
  rotate_left
  · have b1 : decide (n < fr) = true := by simp; omega
    as_aux_lemma =>
      go_wp2_with (go_at_call 30; (with_reducible refine (refm_May n _ _ HS.out).mono ?_); rintro e w' ⟨rfl, rfl⟩)
      go_ret
      exact ⟨rfl, belB⟩
  have b1 : decide (n < fr) = false := by simp; omega
  by_cases q2 : 1 ≤ tt
  rotate_left
  · have b2 : decide (tt < 1) = true := by simp; omega
    as_aux_lemma =>
      go_wp2_with (go_at_call 30; (with_reducible refine (refm_May n _ _ HS.out).mono ?_); rintro e w' ⟨rfl, rfl⟩)
      go_ret
      exact ⟨rfl, belB⟩
  have b2 : decide (tt < 1) = false := by simp; omega
  by_cases q3 : tt ≤ n
  rotate_left
  · have b3 : decide (n < tt) = true := by simp; omega
    as_aux_lemma =>
      go_wp2_with (go_at_call 30; (with_reducible refine (refm_May n _ _ HS.out).mono ?_); rintro e w' ⟨rfl, rfl⟩)
      go_ret
      exact ⟨rfl, belB⟩
  have b3 : decide (n < tt) = false := by simp; omega
  by_cases q4 : fr = tt
  · subst q4
    as_aux_lemma =>
      go_wp2_with (go_at_call 30; (with_reducible refine (refm_May n _ _ HS.out).mono ?_); rintro e w' ⟨rfl, rfl⟩)
      go_ret
      exact ⟨rfl, belB⟩
  exact (HY.out ⟨rfl, q0, q1, q2, q3, q4⟩).elim
end Go.Proofs.YtgfakefcmbpboaaGreat
