/- Some nodes are asked to keep a batch, at the program: step.ask. -/
import Derived.Test.YtgfakefcmbpboaaSxWy
namespace Go.Proofs.Ytgfakefcmbpboaa
open Go.RowKit
set_option linter.unusedSimpArgs false
set_option linter.unusedVariables false

/-- Below B nothing but block g turns. -/
structure But (B g : Nat) (w w' : World) : Prop where
  os : w'.os = w.os
  tape : w'.tape = w.tape
  output : w'.output = w.output
  size : w.heap.size ≤ w'.heap.size
  block : ∀ k, k < B → k ≠ g → w'.heap[k]? = w.heap[k]?
theorem But.refl (B g : Nat) (w : World) : But B g w w := ⟨rfl, rfl, rfl, Nat.le_refl _, fun _ _ _ => rfl⟩
theorem But.trans {B g : Nat} {a b c : World} (h : But B g a b) (k : But B g b c) : But B g a c := ⟨k.os.trans h.os, k.tape.trans h.tape, k.output.trans h.output, Nat.le_trans h.size k.size, fun i h1 h2 => (k.block i h1 h2).trans (h.block i h1 h2)⟩
theorem But.of_below {B g : Nat} {w w' : World} (h : Below B w w') : But B g w w' := ⟨h.os, h.tape, h.output, h.size, fun k hk _ => h.block k hk⟩
theorem But.setg {B g o : Nat} {w w' : World} {u : Value} (h : But B g w w') : But B g w (w'.setCell ⟨g, o, none⟩ u) := ⟨h.os, h.tape, h.output, by simpa [World.setCell] using h.size, fun k hk hne => (Below.heap_setCell _ _ _ _ hne).trans (h.block k hk hne)⟩
theorem But.below {B g : Nat} {w w' : World} (h : But B g w w') (hg : g ≤ B) : Below g w w' := ⟨h.os, h.tape, h.output, h.size, fun k hk => h.block k (by omega) (by omega)⟩
def askM (id d : Int) (b : BatchD) (k : Int) : MsgD := ⟨1, id, k, d, b, ⟨0, 0, [], []⟩, ⟨⟨0, 0, [], []⟩, 0, []⟩, []⟩
noncomputable def askL (id d : Int) (b : BatchD) (nt : List Int) : Nat → List MsgD
  | 0 => []
  | k + 1 => askL id d b nt k ++ if ((k : Int) + 1 ≠ id ∧ memS nt ((k : Int) + 1) = false) then [askM id d b ((k : Int) + 1)] else []
theorem askL_len (id d : Int) (b : BatchD) (nt : List Int) : ∀ k, (askL id d b nt k).length ≤ k
  | 0 => Nat.le_refl _
  | k + 1 => by
    have := askL_len id d b nt k
    unfold askL
    rw [List.length_append]
    split <;> simp <;> omega
def AskI (g B : Nat) (id nodes d : Int) (k2 k3 k4 k5 k6 k7 k8 : Value) (b : BatchD) (bA nA : Option Addr) (bn bc nn nc : Nat) (nt : List Int) (l : List MsgD) (w : World) (k : Nat) (wr : World) : Prop :=
  ∃ A n c ps, Blk wr g 97 [.int .i64 id, .int .i64 nodes, k2, k3, k4, k5, k6, k7, k8, .slice A n c] ∧ Blk wr w.heap.size 40 [.int .i64 b.au, .int .i64 b.n, .slice bA bn bc] ∧ OwnT dMsg wr B (.slice A n c) ps (l ++ askL id d b nt k) ∧ But B g w wr
def AskJ (g B : Nat) (id nodes d : Int) (k2 k3 k4 k5 k6 k7 k8 : Value) (b : BatchD) (bA nA : Option Addr) (bn bc nn nc : Nat) (nt : List Int) (l : List MsgD) (w : World) (a' : Act) (w' : World) : Prop :=
  ∃ (k : Nat) (u4 u5 u7 u9 u10 u11 u12 u13 u14 u15 u16 u17 u18 u19 u20 u21 u22 u23 u24 u25 u26 u27 u28 u29 u30 u31 u32 u33 u34 u35 u36 u37 : Value), a' = { tmps := #[.pointer (some ⟨g, 0, none⟩), .int .i64 d, .agg #[.int .i64 b.au, .int .i64 b.n, .slice bA bn bc], .slice nA nn nc, u4, u5, .pointer (some ⟨w.heap.size, 0, none⟩), u7, .int .i64 ((k : Int) + 1), u9, u10, u11, u12, u13, u14, u15, u16, u17, u18, u19, u20, u21, u22, u23, u24, u25, u26, u27, u28, u29, u30, u31, u32, u33, u34, u35, u36, u37], defers := [] } ∧ (k : Int) ≤ nodes ∧ AskI g B id nodes d k2 k3 k4 k5 k6 k7 k8 b bA nA bn bc nn nc nt l w k w'
theorem AskJ.mk {g B : Nat} {id nodes d : Int} {k2 k3 k4 k5 k6 k7 k8 : Value} {b : BatchD} {bA nA : Option Addr} {bn bc nn nc : Nat} {nt : List Int} {l : List MsgD} {w : World} {ix : Int} {k : Nat} {u4 u5 u7 u9 u10 u11 u12 u13 u14 u15 u16 u17 u18 u19 u20 u21 u22 u23 u24 u25 u26 u27 u28 u29 u30 u31 u32 u33 u34 u35 u36 u37 : Value} {w' : World} (hk : (k : Int) ≤ nodes) (h : AskI g B id nodes d k2 k3 k4 k5 k6 k7 k8 b bA nA bn bc nn nc nt l w k w') (hix : ix = (k : Int) + 1) :
    AskJ g B id nodes d k2 k3 k4 k5 k6 k7 k8 b bA nA bn bc nn nc nt l w { tmps := #[.pointer (some ⟨g, 0, none⟩), .int .i64 d, .agg #[.int .i64 b.au, .int .i64 b.n, .slice bA bn bc], .slice nA nn nc, u4, u5, .pointer (some ⟨w.heap.size, 0, none⟩), u7, .int .i64 ix, u9, u10, u11, u12, u13, u14, u15, u16, u17, u18, u19, u20, u21, u22, u23, u24, u25, u26, u27, u28, u29, u30, u31, u32, u33, u34, u35, u36, u37], defers := [] } w' := by
  subst hix
  exact ⟨k, _, _, _, _, _, _, _, _, _, _, _, _, _, _, _, _, _, _, _, _, _, _, _, _, _, _, _, _, _, _, _, _, rfl, hk, h⟩
set_option maxRecDepth 100000 in
set_option maxHeartbeats 4000000 in
theorem step_ask (g B : Nat) (id nodes d : Int) (k2 k3 k4 k5 k6 k7 k8 : Value) (b : BatchD) (bA nA uA : Option Addr) (bn bc nn nc un uc : Nat) (nt : List Int) (ps : List MsgP) (l : List MsgD) (w : World) (hg : Blk w g 97 [.int .i64 id, .int .i64 nodes, k2, k3, k4, k5, k6, k7, k8, .slice uA un uc]) (hgB : g < B) (hB : B ≤ w.heap.size) (ho : OwnT dMsg w B (.slice uA un uc) ps l) (hl : l.length ≤ 700000000) (hn1 : 1 ≤ nodes) (hn16 : nodes ≤ 16) (hbn : bn ≤ 800000000)
    (hb : ∀ X, But B g w X → TxsR X bA bn b.tx) (hnt : ∀ X, But B g w X → IntsR X nA nn nt) :
    Calls Try.prog 54 #[.pointer (some ⟨g, 0, none⟩), .int .i64 d, .agg #[.int .i64 b.au, .int .i64 b.n, .slice bA bn bc], .slice nA nn nc] w fun e w' => ∃ A n c ps', e = .returned (.tuple #[]) ∧ But B g w w' ∧ Blk w' g 97 [.int .i64 id, .int .i64 nodes, k2, k3, k4, k5, k6, k7, k8, .slice A n c] ∧ OwnT dMsg w' B (.slice A n c) ps' (l ++ askL id d b nt nodes.toNat) := by
  have HG := Lib.hid hg
  have HO := Lib.hid ho
  have HB := Lib.hid hb
  have HNT := Lib.hid hnt
  have hgl := hg.lt
  have HBN : Hid (b.tx.length = bn) := Lib.hid (hb w (But.refl _ _ _)).1
  clear hg ho hb hnt
  go_enter Try.func54, Try.ntmps54
  go_wp2_with fail
  have hb0 : Below w.heap.size w (w.alloc (.cells #[.int .i64 b.au, .int .i64 b.n, .slice bA bn bc] 40)) := bel_alloc (Below.refl _ _)
  have h0 : AskI g B id nodes d k2 k3 k4 k5 k6 k7 k8 b bA nA bn bc nn nc nt l w 0 (w.alloc (.cells #[.int .i64 b.au, .int .i64 b.n, .slice bA bn bc] 40)) := ⟨uA, un, uc, ps, HG.out.up hb0, Blk.new w 40 [.int .i64 b.au, .int .i64 b.n, .slice bA bn bc], by simpa [askL] using HO.out.up hb0, But.of_below (hb0.mono hB)⟩
  have H0 := Lib.hid h0
  clear h0
  refine wp_scope_back 0 (AskJ g B id nodes d k2 k3 k4 k5 k6 k7 k8 b bA nA bn bc nn nc nt l w) (fun a' _ => 18 - (intOf (a'.tmps.getD 8 undef)).toNat) rfl ?_ ?_
  · intro hpass
    go_wp2_with fail
    rename_i K hK
    apply wp_label
    apply hK
    exact hpass _ _ (AskJ.mk (k := 0) (by omega) H0.out (by simp))
  · clear H0 hb0
    rintro a' w' ⟨k, u4, u5, u7, u9, u10, u11, u12, u13, u14, u15, u16, u17, u18, u19, u20, u21, u22, u23, u24, u25, u26, u27, u28, u29, u30, u31, u32, u33, u34, u35, u36, u37, rfl, hk, A, n, c, ps', hG, hX, hO, hBt⟩
    have HGk := Lib.hid hG
    have HXk := Lib.hid hX
    have HOk := Lib.hid hO
    have HBk := Lib.hid hBt
    have hgk := hG.lt
    have hxk := hX.lt
    have a_0 := (hG.box).2 0 _ rfl; have a_1 := (hG.box).2 1 _ rfl; have a_2 := (hG.box).2 2 _ rfl; have a_3 := (hG.box).2 3 _ rfl; have a_4 := (hG.box).2 4 _ rfl; have a_5 := (hG.box).2 5 _ rfl; have a_6 := (hG.box).2 6 _ rfl; have a_7 := (hG.box).2 7 _ rfl; have a_8 := (hG.box).2 8 _ rfl; have a_9 := (hG.box).2 9 _ rfl
    have b_0 := (hX.box).2 0 _ rfl; have b_1 := (hX.box).2 1 _ rfl; have b_2 := (hX.box).2 2 _ rfl
    clear hG hX hO hBt
    by_cases hlt : (k : Int) < nodes
    · have hgt : decide (nodes < (k : Int) + 1) = false := by simp; omega
      by_cases hid : (k : Int) + 1 = id
      · have hne : (((k : Int) + 1) != id) = false := by simp [hid]
        have H9 : Hid (AskI g B id nodes d k2 k3 k4 k5 k6 k7 k8 b bA nA bn bc nn nc nt l w (k + 1) w') := Lib.hid ⟨A, n, c, ps', HGk.out, HXk.out, by unfold askL; rw [if_neg (fun h => h.1 hid), List.append_nil]; exact HOk.out, HBk.out⟩
        clear hid
        go_wp2_with fail
        apply wp_goto
        refine ⟨rfl, AskJ.mk (k := k + 1) (by omega) H9.out (by omega), ?_⟩
        simp [intOf]; omega
      · have hne : (((k : Int) + 1) != id) = true := by simp [hid]
        obtain ⟨y, hy⟩ : ∃ y, memS nt ((k : Int) + 1) = y := ⟨_, rfl⟩
        have HID := Lib.hid hid
        have HY := Lib.hid hy
        clear hid hy
        cases y
        · have HEQ : Hid (askL id d b nt (k + 1) = askL id d b nt k ++ [askM id d b ((k : Int) + 1)]) := Lib.hid (by rw [askL, if_pos ⟨HID.out, HY.out⟩])
          go_wp2_with (first
            | (go_at_call 58; refine (slices_Contains nA nn nc nt ((k : Int) + 1) false _ (HNT.out _ HBk.out) HY.out).mono ?_; rintro e w6 ⟨rfl, hb6⟩; have hX6 := HXk.out.up hb6; have hx6 := hX6.lt; clear b_0 b_1 b_2; have b_0 := (hX6.box).2 0 _ rfl; have b_1 := (hX6.box).2 1 _ rfl; have b_2 := (hX6.box).2 2 _ rfl; have HX6 := Lib.hid hX6; clear hX6)
            | (go_at_call 61; refine (batch_Own b bA bn bc _ (HB.out _ (HBk.out.trans (But.of_below (hb6.mono (by have := HBk.out.size; omega))))) hbn).mono ?_; rintro e w7 ⟨v7, rfl, ho7, hb7⟩; obtain ⟨A7, c7, rfl, -⟩ := ho7.txs (by rw [HBN.out]; omega); rw [HBN.out] at ho7 ⊢; have hb67 : Below w'.heap.size w' w7 := bel_trans hb6 hb7; have hM7 : OwnM w7 B ⟨⟨A7, bn, c7⟩, ⟨⟨none, 0, 0⟩, ⟨none, 0, 0⟩⟩, ⟨⟨⟨none, 0, 0⟩, ⟨none, 0, 0⟩⟩, ⟨none, 0, 0⟩⟩, ⟨none, 0, 0⟩⟩ (⟨1, 0, 0, d, b, ⟨0, 0, [], []⟩, ⟨⟨0, 0, [], []⟩, 0, []⟩, []⟩ : MsgD) := ⟨ho7.mono (by have := HBk.out.size; have := hb6.size; omega), OwnI.nil _ _, OwnI.nil _ _, OwnI.nil _ _, OwnI.nil _ _, OwnI.nil _ _, OwnI.nil _ _⟩; have HM7 := Lib.hid hM7; have HB67 := Lib.hid hb67; clear ho7 hM7 hb7 hb67)
            | (go_at_call 59; refine (step_say g B id ((k : Int) + 1) (.int .i64 nodes) k2 k3 k4 k5 k6 k7 k8 A n c ps' (l ++ askL id d b nt k) ⟨⟨A7, bn, c7⟩, ⟨⟨none, 0, 0⟩, ⟨none, 0, 0⟩⟩, ⟨⟨⟨none, 0, 0⟩, ⟨none, 0, 0⟩⟩, ⟨none, 0, 0⟩⟩, ⟨none, 0, 0⟩⟩ ⟨1, 0, 0, d, b, ⟨0, 0, [], []⟩, ⟨⟨0, 0, [], []⟩, 0, []⟩, []⟩ _ (HGk.out.up HB67.out) hgB (Nat.le_trans hB (Nat.le_trans HBk.out.size HB67.out.size)) (HOk.out.up HB67.out) (by have := askL_len id d b nt k; rw [List.length_append]; omega) HM7.out).mono ?_; rintro e w8 ⟨X, A8, n8, c8, rfl, rfl, hbX, hkX, hoX⟩))
          have hkw : KeepM w' X := (KeepM.of_below HB67.out).trans hkX
          have H9 : Hid (AskI g B id nodes d k2 k3 k4 k5 k6 k7 k8 b bA nA bn bc nn nc nt l w (k + 1) (X.setCell ⟨g, 9, none⟩ (.slice A8 n8 c8))) := Lib.hid ⟨A8, n8, c8, ps' ++ [⟨⟨A7, bn, c7⟩, ⟨⟨none, 0, 0⟩, ⟨none, 0, 0⟩⟩, ⟨⟨⟨none, 0, 0⟩, ⟨none, 0, 0⟩⟩, ⟨none, 0, 0⟩⟩, ⟨none, 0, 0⟩⟩], (hkw _ _ _ (by decide) HGk.out).set_ 9 _, (hkw _ _ _ (by decide) HXk.out).far (p := ⟨g, 9, none⟩) (by show w.heap.size ≠ g; omega) _, by rw [HEQ.out, ← List.append_assoc]; exact hoX.low hgB, ((HBk.out.trans (But.of_below (HB67.out.mono (by have := HBk.out.size; omega)))).trans (But.of_below hbX)).setg⟩
          apply wp_goto
          refine ⟨rfl, AskJ.mk (k := k + 1) (by omega) H9.out (by omega), ?_⟩
          simp [intOf]; omega
        · have H9 : Hid (∀ X, Below w'.heap.size w' X → AskI g B id nodes d k2 k3 k4 k5 k6 k7 k8 b bA nA bn bc nn nc nt l w (k + 1) X) := Lib.hid (fun X hX => ⟨A, n, c, ps', HGk.out.up hX, HXk.out.up hX, by unfold askL; rw [if_neg (fun h => by rw [HY.out] at h; cases h.2), List.append_nil]; exact HOk.out.up hX, HBk.out.trans (But.of_below (hX.mono (by have := HBk.out.size; omega)))⟩)
          go_wp2_with (go_at_call 58; refine (slices_Contains nA nn nc nt ((k : Int) + 1) true _ (HNT.out _ HBk.out) HY.out).mono ?_; rintro e w6 ⟨rfl, hb6⟩)
          apply wp_goto
          refine ⟨rfl, AskJ.mk (k := k + 1) (by omega) (H9.out _ hb6) (by omega), ?_⟩
          simp [intOf]; omega
    · have hgt : decide (nodes < (k : Int) + 1) = true := by simp; omega
      have hkn : nodes.toNat = k := by omega
      go_wp2_with fail
      simp only [Exit.jump]
      exact bodyPost_ret (v := .tuple #[]) (by simp [results, Try.results54, go_sem]) rfl ⟨A, n, c, ps', rfl, HBk.out, HGk.out, by rw [hkn]; exact HOk.out⟩
end Go.Proofs.Ytgfakefcmbpboaa
