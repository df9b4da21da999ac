/- droverref4.Message at what is wanted; messages appended to none. -/
import Derived.Test.YtnngeaibdnnpoaaSkHja
import Derived.Test.YtnngeaibdnnpoaaSkHr
namespace Go.Proofs.Ytnngeaibdnnpoaa
open Go.RowKit
set_option linter.unusedSimpArgs false
set_option linter.unusedVariables false

def Rises (l : List Int) : Prop := ∀ j, j + 1 < l.length → nth l j < nth l (j + 1)
noncomputable def risS (l : List Int) : Bool := dec (Rises l)
set_option maxRecDepth 100000 in
set_option maxHeartbeats 1000000 in
theorem ref0_Rising (A : Option Addr) (n c : Nat) (l : List Int) (w : World) (hl : IntsR w A n l) :
    Calls Try.prog 69 #[.slice A n c] w fun e w' => e = .returned (.bool (risS l)) ∧ Below w.heap.size w w' := by
  obtain ⟨h1, h2, h3⟩ := hl
  have H1 := Lib.hid h1; clear h1
  go_enter Try.func69, Try.ntmps69
  go_wp2
  go_loopw [3] (fun i wr => ∃ k : Nat, 1 ≤ k ∧ (k ≤ n ∨ k = 1) ∧ i = .int .i64 k ∧ (∀ j, j + 1 < k → nth l j < nth l (j + 1)) ∧ ∃ m, wr = w.drewN m) (fun i _ => n - (intOf i).toNat)
  case atStart => exact ⟨1, by omega, by omega, rfl, fun j hj => absurd hj (by omega), 0, rfl⟩
  case round =>
    obtain ⟨k, hk1, hk, rfl, hr, m, rfl⟩ := hrel
    have HR := Lib.hid hr; clear hr
    by_cases hlt : k < n
    · obtain ⟨b, off, rfl, _, hc⟩ := h3 (by omega)
      have hck := hc k hlt
      have hcp := hc (k - 1) (by omega)
      have e1 : (k : Int) - 1 = ((k - 1 : Nat) : Int) := by omega
      clear hc h3
      have bad : ¬ (nth l (k - 1) < nth l k) → false = risS l := fun h => dec_false fun g1 => h (by
        have := g1 (k - 1) (by rw [H1.out]; omega)
        rwa [show k - 1 + 1 = k from by omega] at this)
      have B := Lib.hid bad; clear bad
      go_wp2
      go_quiet (fail)
      go_wp2
      all_goals first
        | (go_roundw
           case rel =>
             refine ⟨k + 1, by omega, by omega, by go_num, fun j hj => ?_, _, rfl⟩
             by_cases hjk : j = k - 1
             · subst hjk; rw [show k - 1 + 1 = k from by omega]; omega
             · exact HR.out j (by omega)
           case measure => simp [intOf]; omega)
        | (go_ret; exact ⟨ret_bool (B.out (by omega)), by (repeat (first | (with_reducible exact Below.refl _ _) | (with_reducible assumption) | (with_reducible apply bel_alloc) | (with_reducible apply bel_drew) | (with_reducible apply bel_drewN) | (with_reducible refine bel_trans ?_ (by with_reducible assumption)) | (with_reducible refine bel_trans ?_ (HF.out _)) | (with_reducible refine bel_set ?_ (by simp) _) | (with_reducible refine bel_set ?_ (by simp; omega) _) | (with_reducible refine bel_set ?_ (by omega) _)))⟩)
    · go_wp2
      go_ret
      refine ⟨ret_bool (dec_true fun j hj => ?_), by (repeat (first | (with_reducible exact Below.refl _ _) | (with_reducible assumption) | (with_reducible apply bel_alloc) | (with_reducible apply bel_drew) | (with_reducible apply bel_drewN) | (with_reducible refine bel_trans ?_ (by with_reducible assumption)) | (with_reducible refine bel_trans ?_ (HF.out _)) | (with_reducible refine bel_set ?_ (by simp) _) | (with_reducible refine bel_set ?_ (by simp; omega) _) | (with_reducible refine bel_set ?_ (by omega) _)))⟩
      rw [H1.out] at hj
      exact HR.out j (by omega)
theorem refr_Rising (A : Option Addr) (n c : Nat) (l : List Int) (y : Bool) (w : World) (hl : IntsR w A n l) (hy : risS l = y) : Calls Try.prog 69 #[.slice A n c] w fun e w' => e = .returned (.bool y) ∧ Below w.heap.size w w' := (ref0_Rising A n c l w hl).mono fun e w' ⟨h1, h2⟩ => ⟨by rw [h1, hy], h2⟩
theorem refd_Digests (A : Option Addr) (n c : Nat) (l : List Int) (y : Bool) (w : World) (hl : IntsR w A n l) (hy : betS l 1 65536 = y) : Calls Try.prog 51 #[.slice A n c] w fun e w' => e = .returned (.bool y) ∧ w = w' := (ref0_Digests A n c l w hl).mono fun e w' ⟨h1, h2⟩ => ⟨by rw [h1, hy], h2⟩
def bat0 : BatchD := ⟨0, 0, []⟩
def hea0 : HeaderD := ⟨0, 0, [], []⟩
def cer0 : CertD := ⟨⟨0, 0, [], []⟩, 0, []⟩
theorem Blk.rng {w : World} {g : Nat} {t : TypeId} {cs : List Value} (h : Blk w g t cs) : w.rangeAt g 0 cs := fun j u hu => by rw [Nat.zero_add]; exact h.box.2 j u hu
theorem Blk.new1 (w : World) (t t' : TypeId) (cs ds : List Value) : Blk ((w.alloc (.cells cs.toArray t)).alloc (.cells ds.toArray t')) (w.heap.size + 1) t' ds := by
  have h := Blk.new (w.alloc (.cells cs.toArray t)) t' ds
  rwa [show (w.alloc (.cells cs.toArray t)).heap.size = w.heap.size + 1 by simp] at h
theorem wpList_load_midG {P : Program} {ops : Array Oper} {rest : List Oper} {op : Oper} {a : Act} {w : World} {Q : Exit → Act → World → Prop} (hg : Region.wanted op (yielded ops a.tmps) = true) (ty : TypeId) (x : Operand) (ho : op.op = .load ty x)
    (b o : Nat) (hx : a.eval x = .pointer (some ⟨b, o, none⟩)) (cs : List Value) (d : TypeDesc) (hc : w.rangeAt b o cs)
    (hu : P.underlying ty = some d) (hd : d.isRow = true) (hi : (P.info? ty).map (·.size) = some cs.length)
    (h : wpList P ops Q rest (a.put op.dst (.agg cs.toArray)) w) : wpList P ops Q (op :: rest) a w :=
  wpList_step fun _ hK => by rw [if_pos hg]; exact wp_load_mid ty x ho b o hx cs d hc hu hd hi (hK _ _ h)
theorem TxsR.nil (w : World) (A : Option Addr) : TxsR w A 0 [] := ⟨rfl, by simp [flat], by omega, fun h => absurd h (by omega)⟩
theorem HeaderR.nil (w : World) : HeaderR w ⟨⟨none, 0, 0⟩, ⟨none, 0, 0⟩⟩ hea0 := ⟨(⟨rfl, by omega, fun h => absurd h (by omega)⟩ : IntsR _ _ 0 []), (⟨rfl, by omega, fun h => absurd h (by omega)⟩ : IntsR _ _ 0 [])⟩
theorem CertR.nil (w : World) : CertR w ⟨⟨⟨none, 0, 0⟩, ⟨none, 0, 0⟩⟩, ⟨none, 0, 0⟩⟩ cer0 := ⟨HeaderR.nil _, (⟨rfl, by omega, fun h => absurd h (by omega)⟩ : IntsR _ _ 0 [])⟩
set_option maxRecDepth 100000 in
set_option maxHeartbeats 1000000 in
theorem ref4_digests_ok (A : Option Addr) (n c : Nat) (l : List Int) (m : Int) (w : World) (hl : IntsR w A n l) (hn : (n : Int) ≤ m) (hb : betS l 1 65536 = true) (hr : risS l = true) : Calls Try.prog 38 #[.slice A n c, .int .i64 m] w fun e w' => e = .returned (.bool true) ∧ Below w.heap.size w w' := by
  have HL := Lib.hid hl
  have HB := Lib.hid hb
  have HR := Lib.hid hr
  have d1 : decide ((n : Int) ≤ m) = true := by simpa using hn
  clear hl hb hr hn
  go_enter Try.func38, Try.ntmps38
  go_wp2_with (first | (go_at_call 51; (with_reducible refine (refd_Digests A n c l true _ HL.out HB.out).mono ?_); rintro e w' ⟨rfl, rfl⟩) | (go_at_call 69; (with_reducible refine (refr_Rising A n c l true _ HL.out HR.out).mono ?_); rintro e w7 ⟨rfl, hb7⟩))
  go_ret
  exact ⟨rfl, hb7⟩
set_option maxRecDepth 100000 in
set_option maxHeartbeats 8000000 in
theorem ref4_Message_f (P : MsgP) (fr tt n : Int) (ds : List Int) (w : World) (hp : MsgR w P (fMk 7 fr tt ds)) (q0 : isS n = true) (q1 : 1 ≤ fr) (q2 : fr ≤ n) (q3 : 1 ≤ tt) (q4 : tt ≤ n) (q5 : ¬ fr = tt) (h1 : 1 ≤ ds.length) (h2 : ds.length ≤ 16) (hbt : betS ds 1 65536 = true) (hr : risS ds = true) :
    Calls Try.prog 17 #[M18 P (fMk 7 fr tt ds), .int .i64 n] w fun e w' => e = .returned (.bool true) ∧ Below w.heap.size w w' := by
  obtain ⟨⟨bA, bn, bc⟩, ⟨⟨xA, xn, xc⟩, ⟨yA, yn, yc⟩⟩, ⟨⟨⟨cA, cn, cd⟩, ⟨dA, dn, dc⟩⟩, ⟨sA, sn, sc⟩⟩, ⟨eA, en, ec⟩⟩ := P
  have HM := Lib.hid hp
  have HS := Lib.hid q0
  have HBT := Lib.hid hbt
  have HRS := Lib.hid hr
  have b0 : decide (fr < 1) = false := by simp; omega
  have b1 : decide (n < fr) = false := by simp; omega
  have b2 : decide (tt < 1) = false := by simp; omega
  have b3 : decide (n < tt) = false := by simp; omega
  have hds : IntsR w eA en ds := hp.ds
  have HD := Lib.hid hds
  have HQ : Hid (MsgR w ⟨⟨none, 0, 0⟩, ⟨⟨none, 0, 0⟩, ⟨none, 0, 0⟩⟩, ⟨⟨⟨none, 0, 0⟩, ⟨none, 0, 0⟩⟩, ⟨none, 0, 0⟩⟩, ⟨eA, en, ec⟩⟩ (fMk 7 fr tt ds)) := Lib.hid ⟨TxsR.nil _ _, HeaderR.nil _, CertR.nil _, hds⟩
  have hen1 : 1 ≤ en := by rw [← hds.1]; exact h1
  have hen2 : en ≤ 16 := by rw [← hds.1]; exact h2
  have d1 : decide ((1 : Int) ≤ (en : Int)) = true := by simp; omega
  clear hp q0 q1 q2 q3 q4 hds h1 h2 hbt hr
  show Calls Try.prog 17 #[.agg #[.int .i64 7, .int .i64 fr, .int .i64 tt, .int .i64 0, .int .i64 0, .int .i64 0, .slice bA bn bc, .int .i64 0, .int .i64 0, .slice xA xn xc, .slice yA yn yc, .int .i64 0, .int .i64 0, .slice cA cn cd, .slice dA dn dc, .int .i64 0, .slice sA sn sc, .slice eA en ec], .int .i64 n] w fun e w' => e = .returned (.bool true) ∧ Below w.heap.size w w'
  go_enter Try.func17, Try.ntmps17
  go_upto_region 2 with fail
  refine wp_world (fun W hW => ?_)
  have HBM : Hid (Blk W w.heap.size 44 [.int .i64 7, .int .i64 fr, .int .i64 tt, .int .i64 0, .int .i64 0, .int .i64 0, .slice bA bn bc, .int .i64 0, .int .i64 0, .slice xA xn xc, .slice yA yn yc, .int .i64 0, .int .i64 0, .slice cA cn cd, .slice dA dn dc, .int .i64 0, .slice sA sn sc, .slice eA en ec]) := Lib.hid (by rw [hW]; exact (Blk.new w 44 [.int .i64 7, .int .i64 fr, .int .i64 tt, .int .i64 0, .int .i64 0, .int .i64 0, .slice bA bn bc, .int .i64 0, .int .i64 0, .slice xA xn xc, .slice yA yn yc, .int .i64 0, .int .i64 0, .slice cA cn cd, .slice dA dn dc, .int .i64 0, .slice sA sn sc, .slice eA en ec]).up (bel_alloc (Below.refl _ _)))
  have HBX : Hid (Blk W (w.heap.size + 1) 44 [.int .i64 7, .int .i64 fr, .int .i64 tt, .int .i64 0, .int .i64 0, .int .i64 0, .slice none 0 0, .int .i64 0, .int .i64 0, .slice none 0 0, .slice none 0 0, .int .i64 0, .int .i64 0, .slice none 0 0, .slice none 0 0, .int .i64 0, .slice none 0 0, .slice none 0 0]) := Lib.hid (by rw [hW]; exact Blk.new1 w 44 44 [.int .i64 7, .int .i64 fr, .int .i64 tt, .int .i64 0, .int .i64 0, .int .i64 0, .slice bA bn bc, .int .i64 0, .int .i64 0, .slice xA xn xc, .slice yA yn yc, .int .i64 0, .int .i64 0, .slice cA cn cd, .slice dA dn dc, .int .i64 0, .slice sA sn sc, .slice eA en ec] [.int .i64 7, .int .i64 fr, .int .i64 tt, .int .i64 0, .int .i64 0, .int .i64 0, .slice none 0 0, .int .i64 0, .int .i64 0, .slice none 0 0, .slice none 0 0, .int .i64 0, .int .i64 0, .slice none 0 0, .slice none 0 0, .int .i64 0, .slice none 0 0, .slice none 0 0])
  have hb0 : Below w.heap.size w W := by rw [hW]; exact bel_alloc (bel_alloc (Below.refl _ _))
  clear hW
  have hsz : w.heap.size + 1 < W.heap.size := HBX.out.lt
  have m0 := HBM.out.box.2 0 _ rfl
  have m1 := HBM.out.box.2 1 _ rfl
  have m2 := HBM.out.box.2 2 _ rfl
  have m17 := HBM.out.box.2 17 _ rfl
  have x17 := HBX.out.box.2 17 _ rfl
  have f17 : W.frozen? ⟨w.heap.size + 1, 17, none⟩ = false := HBX.out.frozen 17
  go_upto_region 23 with (go_at_call 33; (with_reducible refine (refm_May n _ _ HS.out).mono ?_); rintro e w' ⟨rfl, rfl⟩)
  refine wp_world (fun V hV => ?_)
  have HVM : Hid (Blk V w.heap.size 44 [.int .i64 7, .int .i64 fr, .int .i64 tt, .int .i64 0, .int .i64 0, .int .i64 0, .slice bA bn bc, .int .i64 0, .int .i64 0, .slice xA xn xc, .slice yA yn yc, .int .i64 0, .int .i64 0, .slice cA cn cd, .slice dA dn dc, .int .i64 0, .slice sA sn sc, .slice eA en ec]) := Lib.hid (by rw [hV]; exact HBM.out.far (by simp) _)
  have HVX : Hid (Blk V (w.heap.size + 1) 44 [.int .i64 7, .int .i64 fr, .int .i64 tt, .int .i64 0, .int .i64 0, .int .i64 0, .slice none 0 0, .int .i64 0, .int .i64 0, .slice none 0 0, .slice none 0 0, .int .i64 0, .int .i64 0, .slice none 0 0, .slice none 0 0, .int .i64 0, .slice none 0 0, .slice eA en ec]) := Lib.hid (by rw [hV]; exact HBX.out.set_ 17 _)
  have hb2 : Below w.heap.size w V := by rw [hV]; exact hb0.setCell (p := ⟨w.heap.size + 1, 17, none⟩) (by simp) _
  clear hV m0 m1 m2 m17 x17 f17 HBM HBX hsz hb0
  have m17 := HVM.out.box.2 17 _ rfl
  go_upto_region 24 with (go_at_call 38; (with_reducible refine (ref4_digests_ok eA en ec ds 16 _ (HD.out.up hb2) (by omega) HBT.out HRS.out).mono ?_); rintro e w7 ⟨rfl, hb7⟩)
  have HVM7 := Lib.hid (HVM.out.up hb7)
  have HVX7 := Lib.hid (HVX.out.up hb7)
  have HM7 := Lib.hid (HM.out.up (bel_trans hb2 hb7))
  have HQ7 := Lib.hid (HQ.out.up (bel_trans hb2 hb7))
  have HB := Lib.hid (bel_trans hb2 hb7)
  clear m17 HVM HVX HM HQ hb2 hb7 d1
  refine wp_region_list ?_
  simp only [List.toList_toArray]
  refine wpList_plain rfl (fun K hK => ?_)
  go_simp
  refine hK _ _ ?_
  clear hK K
  (try simp only [Act.put, List.setIfInBounds_toArray, List.set_cons_zero, List.set_cons_succ])
  refine wpList_plain rfl (fun K hK => ?_)
  go_simp
  refine hK _ _ ?_
  clear hK K
  (try simp only [Act.put, List.setIfInBounds_toArray, List.set_cons_zero, List.set_cons_succ])
  refine wpList_load_midG (by kernel_rfl) 44 _ rfl (w.heap.size + 1) 0 (by simp [Act.eval, Act.put]) [.int .i64 7, .int .i64 fr, .int .i64 tt, .int .i64 0, .int .i64 0, .int .i64 0, .slice none 0 0, .int .i64 0, .int .i64 0, .slice none 0 0, .slice none 0 0, .int .i64 0, .int .i64 0, .slice none 0 0, .slice none 0 0, .int .i64 0, .slice none 0 0, .slice eA en ec] _ HVX7.out.rng Try.underlying44 (by rfl) (by kernel_rfl) ?_
  (try simp only [Act.put, List.setIfInBounds_toArray, List.set_cons_zero, List.set_cons_succ])
  refine wpList_load_midG (by kernel_rfl) 44 _ rfl w.heap.size 0 (by simp [Act.eval, Act.put]) [.int .i64 7, .int .i64 fr, .int .i64 tt, .int .i64 0, .int .i64 0, .int .i64 0, .slice bA bn bc, .int .i64 0, .int .i64 0, .slice xA xn xc, .slice yA yn yc, .int .i64 0, .int .i64 0, .slice cA cn cd, .slice dA dn dc, .int .i64 0, .slice sA sn sc, .slice eA en ec] _ HVM7.out.rng Try.underlying44 (by rfl) (by kernel_rfl) ?_
  (try simp only [Act.put, List.setIfInBounds_toArray, List.set_cons_zero, List.set_cons_succ, List.toList_toArray])
  go_wp2_with fail
  refine (ref0_EqMessage ⟨⟨none, 0, 0⟩, ⟨⟨none, 0, 0⟩, ⟨none, 0, 0⟩⟩, ⟨⟨⟨none, 0, 0⟩, ⟨none, 0, 0⟩⟩, ⟨none, 0, 0⟩⟩, ⟨eA, en, ec⟩⟩ ⟨⟨bA, bn, bc⟩, ⟨⟨xA, xn, xc⟩, ⟨yA, yn, yc⟩⟩, ⟨⟨⟨cA, cn, cd⟩, ⟨dA, dn, dc⟩⟩, ⟨sA, sn, sc⟩⟩, ⟨eA, en, ec⟩⟩ (fMk 7 fr tt ds) _ HQ7.out HM7.out).mono ?_
  rintro e w9 ⟨rfl, hb9⟩
  have hb9' := bel_trans HB.out hb9
  go_wp2_with fail
  go_ret
  exact ⟨rfl, hb9'⟩
theorem msg_one (P : MsgP) (M : MsgD) : ∀ u ∈ msgCells P M, u.oneCell' = true := fun u hu => by
  simp only [msgCells, List.mem_cons, List.not_mem_nil, or_false] at hu
  rcases hu with rfl | rfl | rfl | rfl | rfl | rfl | rfl | rfl | rfl | rfl | rfl | rfl | rfl | rfl | rfl | rfl | rfl | rfl <;> rfl
theorem msgs1_of {w : World} {B : Nat} {v : Value} {P : MsgP} {M : MsgD} (h : w.ownsRow B 44 18 v 1 (msgCells P M)) (hm : MsgR w P M) : ∃ A c, v = .slice A 1 c ∧ MsgsR w A 1 [M] := by
  obtain ⟨A, c, e, hr, -, -, -⟩ := own_row h (by omega)
  refine ⟨A, c, e, rfl, by omega, fun h0 => ?_⟩
  obtain ⟨b, off, e2, hb, hc⟩ := hr.2.2 h0
  refine ⟨b, off, e2, hb, fun j hj => ?_⟩
  obtain rfl : j = 0 := by omega
  refine ⟨P, fun r u hu => ?_, hm⟩
  rw [Nat.zero_mul, Nat.add_zero]
  exact hc r u hu
/-- messages appended to none: the one that there is. -/
theorem wpList_appOut {w : World} {ops : Array Oper} {rest : List Oper} {o : Oper} {a : Act} {Q : Exit → Act → World → Prop} (hgd : o.guard = none) (s x : Operand)
    (ho : o.op = .call { callee := .builtin .append, args := #[s, x], argTypes := #[32, 32] }) (hty : o.type = 32) (hs : a.eval s = .slice none 0 0)
    (A : Option Addr) (c : Nat) (M : MsgD) (hx : a.eval x = .slice A 1 c) (hm : MsgsR w A 1 [M])
    (h : ∀ A' c' w', MsgsR w' A' 1 [M] → Below w.heap.size w w' → wpList Try.prog ops Q rest (a.put o.dst (.slice A' 1 c')) w') : wpList Try.prog ops Q (o :: rest) a w := by
  obtain ⟨b, off, e2, hb, hc⟩ := hm.2.2 (by omega)
  subst e2
  obtain ⟨P, hP, hR⟩ := hc 0 (by omega)
  obtain ⟨v', w', hrun, h2, h3, h4, h5⟩ := run_app_Message w w.heap.size (.slice none 0 0) 0 [] (own_nil w w.heap.size 18 _) b off 1 c (msgCells P M) rfl (fun j u hj => by have h9 := hP j u hj; rwa [Nat.zero_mul, Nat.add_zero] at h9) (msg_one P M) (by omega) (Nat.le_refl _)
  have h6 : w'.ownsRow w.heap.size 44 18 v' 1 (msgCells P M) := by simpa using h2
  obtain ⟨A', c', e, hm'⟩ := msgs1_of h6 (MsgR.up (P := P) (M := M) hR h4)
  subst e
  exact Lib.wpList_append_run w hgd s x _ _ ho _ _ hs hx _ _ (by rw [hty]; exact hrun) (h A' c' w' hm' h4)
theorem wpList_app0M {w : World} {ops : Array Oper} {rest : List Oper} {o : Oper} {a : Act} {Q : Exit → Act → World → Prop} (hgd : o.guard = none) (s x : Operand)
    (ho : o.op = .call { callee := .builtin .append, args := #[s, x], argTypes := #[32, 32] })
    (hs : a.eval s = .slice none 0 0) (xa : Option Addr) (c : Nat) (hx : a.eval x = .slice xa 0 c)
    (h : wpList Try.prog ops Q rest (a.put o.dst (.slice none 0 0)) w) : wpList Try.prog ops Q (o :: rest) a w := by
  obtain ⟨i0, hi, hz, hz1, hz2⟩ := info_parts info_Message
  have hrun : (Builtin.append_ #[32, 32] o.type #[.slice none 0 0, .slice xa 0 c]).run Try.prog w = .ok (.slice none 0 0) w := by
    cases xa <;> simp [Builtin.append_, run_underlying Try.underlying32, sizeOf, typeInfo, hi, Builtin.lenOf, Builtin.firstCells, loadCells, loadCellsFrom, storeCells]
  exact Lib.wpList_append_run w hgd s x _ _ ho _ _ hs hx _ _ hrun h
end Go.Proofs.Ytnngeaibdnnpoaa
