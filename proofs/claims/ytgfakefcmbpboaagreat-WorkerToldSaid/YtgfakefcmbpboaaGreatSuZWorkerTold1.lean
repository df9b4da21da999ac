/- WorkerTold: the statement: whatever argument is given, WorkerTold returns true and changes nothing. No conditions. -/
import Derived.Test.YtgfakefcmbpboaaGreatSuWgt
import Derived.Lib.Bytealg
import Derived.Deep.Cut
import Derived.Deep.CutRange
import Derived.ChangeArms
import Derived.SizedLaws
import Derived.Deep.RegionLaw
import Derived.Deep.RegionWith
import Derived.Deep.RegionHeld3
namespace Go.Proofs.YtgfakefcmbpboaaGreat
set_option linter.all false
set_option maxRecDepth 100000

section
open Go.RowKit
end
section
open Go.RowKit
end
section
open Go.RowKit
end
section
open Go.RowKit
end
section
open Go.RowKit
end
section
open Go.RowKit
end
section
open Go.RowKit
end
section
open Go.RowKit
end
section
open Go.RowKit
end
section
open Go.RowKit
end
section
open Go.RowKit
variable {tb : TypeId} {rs : List Value}
end
section

section
variable {α K : Type} [Inhabited α] {f : α → K} {lt : K → K → Bool}
theorem cnt_take (p : α → Bool) : ∀ (l : List α), ∀ x ∈ l.take (cnt p l), p x = true
 | [], x, h => by simp at h
 | y :: l, x, h => by
  unfold cnt at h
  split at h
  ·next hy =>
   rw [List.take_succ_cons, List.mem_cons] at h
   rcases h with rfl | h
   ·exact hy
   ·exact cnt_take p l x h
  ·simp at h
theorem cnt_stop (p : α → Bool) : ∀ (l : List α), cnt p l < l.length → p (l.getD (cnt p l) default) = false
 | [], h => by simp at h
 | y :: l, h => by
  unfold cnt at h ⊢
  split
  ·next hy =>
   rw [if_pos hy] at h
   exact cnt_stop p l (by simpa using h)
  ·next hy => simpa using hy
end
end
section
open Go.RowKit
end
section
open Go.RowKit Go.ChangeShapes Go.WideShapes Go.ChangeAt
section
variable {H : Type} {enc : TypeId × Value → H} {w : World} {base : Nat} {spare : Nat → Bool} {held : Bool}
end
end
section
open Go.RowKit
end
section
open Go.RowKit
end
section
open Go.RowKit
end
section
end
section
open Go.RowKit
end
section
open Go.RowKit
end
section
open Go.RowKit
variable {tb : TypeId} {rs : List Value}

end
section
open Go.RowKit
end

section
open Go.RowKit
def hasS (l : List Int) (x : Int) : Bool := decide (0 ≤ inS l x)
theorem OwnI.shape {w : World} {B : Nat} {v : Value} {l : List Int} (h : OwnI w B v l) : (v = .slice none 0 0 ∧ l = []) ∨ ∃ g c, v = .slice (some ⟨g, 0, none⟩) l.length c ∧ B ≤ g := by
 rcases h.2 with ⟨rfl, hn⟩ | ⟨g, cap, cur, rfl, hb, _⟩
 ·exact .inl ⟨rfl, by simpa using hn⟩
 ·exact .inr ⟨g, cap, rfl, hb⟩
theorem nth_mem {l : List Int} {k : Nat} (h : k < l.length) : nth l k ∈ l := by
 unfold nth; simp [h]
theorem mem_nth {l : List Int} {x : Int} : x ∈ l ↔ ∃ j, j < l.length ∧ nth l j = x := by
 constructor
 ·intro h
  obtain ⟨j, hj, e⟩ := List.getElem_of_mem h
  exact ⟨j, hj, by simp [nth, hj, e]⟩
 ·rintro ⟨j, hj, rfl⟩; exact nth_mem hj
end
section
open Go.RowKit Go.ChangeShapes Go.WideShapes Go.ChangeAt
section
variable {H : Type} {enc : TypeId × Value → H} {w : World} {base : Nat} {spare : Nat → Bool} {held : Bool}
end
end
section
open Go.RowKit
end
section
open Go.RowKit
end
section
open Go.RowKit
end
section
open Go.RowKit
end
open Go.RowKit

theorem TxsR.nil (w : World) (A : Option Addr) : TxsR w A 0 [] := ⟨rfl, by simp [flat], by omega, fun h => absurd h (by omega)⟩
theorem ref0_Dig (d : Int) (y : Bool) (w : World) (hy : digS d = y) : Calls Tryz.prog 36 #[.int .i64 d] w fun e w' => e = .returned (.bool y) ∧ w = w' :=
 (ref0_Digest d w).mono fun e w' ⟨h1, h2⟩ => ⟨by rw [h1, hy], h2⟩
set_option maxHeartbeats 8000000 in
theorem ref4_Message2 (P : MsgP) (M : MsgD) (n : Int) (y : Bool) (w : World) (hp : MsgR w P M) (hk : M.ki = 2) (hh : hdM M n) (hy : msgB M n = y) :
  Calls Tryz.prog 90 #[M18 P M, .int .i64 n] w fun e w' => e = .returned (.bool y) ∧ Below w.heap.size w w' := by
 obtain ⟨⟨bA, bn, bc⟩, ⟨⟨xA, xn, xc⟩, ⟨yA, yn, yc⟩⟩, ⟨⟨⟨cA, cn, cd⟩, ⟨dA, dn, dc⟩⟩, ⟨sA, sn, sc⟩⟩, ⟨eA, en, ec⟩⟩ := P
 obtain ⟨ki, fr, tt, di, b, hd, cc, ds⟩ := M
 dsimp only at hk
 subst hk
 have HM := ħ hp
 obtain ⟨q0, q1, q2, q3, q4, q5⟩ := hh
 dsimp only at q1 q2 q3 q4 q5
 have HQ := ħ (And.intro q0 (And.intro q1 (And.intro q2 (And.intro q3 (And.intro q4 q5)))))
 have HS := ħ q0
 have b0 : decide (fr < 1) = false := by simp; omega
 have b1 : decide (n < fr) = false := by simp; omega
 have b2 : decide (tt < 1) = false := by simp; omega
 have b3 : decide (n < tt) = false := by simp; omega
 have HTX : Hid (TxsR w bA bn b.tx) := ħ hp.tx
 have HDS : Hid (IntsR w eA en ds) := ħ hp.ds
 have HLN : Hid (ds.length = en) := ħ hp.ds.1
 have HY : Hid (y = true ↔ (isS n = true ∧ 1 ≤ fr ∧ fr ≤ n ∧ 1 ≤ tt ∧ tt ≤ n ∧ fr ≠ tt) ∧ digS di = true ∧ (⟨2, fr, tt, di, bat0, hea0, cer0, []⟩ : MsgD) = ⟨2, fr, tt, di, b, hd, cc, ds⟩) := ħ (msgB_iff hy)
 clear hp hy q0 q1 q2 q3 q4
 show Calls Tryz.prog 90 #[.agg #[.int .i64 2, .int .i64 fr, .int .i64 tt, .int .i64 di, .int .i64 b.au, .int .i64 b.n, .slice bA bn bc, .int .i64 hd.au, .int .i64 hd.ro, .slice xA xn xc, .slice yA yn yc, .int .i64 cc.h.au, .int .i64 cc.h.ro, .slice cA cn cd, .slice dA dn dc, .int .i64 cc.di, .slice sA sn sc, .slice eA en ec], .int .i64 n] w fun e w' => e = .returned (.bool y) ∧ Below w.heap.size w w'
 obtain ⟨yd, hyd⟩ : ∃ yd, digS di = yd := ⟨_, rfl⟩
 have HD := ħ hyd
 rw [hyd] at HY; clear hyd
 have WX : ∀ u : World, MsgR u ⟨⟨none, 0, 0⟩, ⟨⟨none, 0, 0⟩, ⟨none, 0, 0⟩⟩, ⟨⟨⟨none, 0, 0⟩, ⟨none, 0, 0⟩⟩, ⟨none, 0, 0⟩⟩, ⟨none, 0, 0⟩⟩ ⟨2, fr, tt, di, bat0, hea0, cer0, []⟩ := fun u => ⟨TxsR.nil _ _, HeaderR.nil _, CertR.nil _, IntsR.nil _ _⟩
 go_enter Tryz.func90, Tryz.ntmps90
 go_upto_region 2 with fail
 refine wp_world (fun W hW => ?_)
 have HBM : Hid (Blk W w.heap.size 49 [.int .i64 2, .int .i64 fr, .int .i64 tt, .int .i64 di, .int .i64 b.au, .int .i64 b.n, .slice bA bn bc, .int .i64 hd.au, .int .i64 hd.ro, .slice xA xn xc, .slice yA yn yc, .int .i64 cc.h.au, .int .i64 cc.h.ro, .slice cA cn cd, .slice dA dn dc, .int .i64 cc.di, .slice sA sn sc, .slice eA en ec]) := ħ (by rw [hW]; exact (Blk.new w 49 [.int .i64 2, .int .i64 fr, .int .i64 tt, .int .i64 di, .int .i64 b.au, .int .i64 b.n, .slice bA bn bc, .int .i64 hd.au, .int .i64 hd.ro, .slice xA xn xc, .slice yA yn yc, .int .i64 cc.h.au, .int .i64 cc.h.ro, .slice cA cn cd, .slice dA dn dc, .int .i64 cc.di, .slice sA sn sc, .slice eA en ec]).up (bel_alloc (Below.refl _ _)))
 have HBX : Hid (Blk W (w.heap.size + 1) 49 [.int .i64 2, .int .i64 fr, .int .i64 tt, .int .i64 0, .int .i64 0, .int .i64 0, .slice none 0 0, .int .i64 0, .int .i64 0, .slice none 0 0, .slice none 0 0, .int .i64 0, .int .i64 0, .slice none 0 0, .slice none 0 0, .int .i64 0, .slice none 0 0, .slice none 0 0]) := ħ (by rw [hW]; exact Blk.new1 w 49 49 [.int .i64 2, .int .i64 fr, .int .i64 tt, .int .i64 di, .int .i64 b.au, .int .i64 b.n, .slice bA bn bc, .int .i64 hd.au, .int .i64 hd.ro, .slice xA xn xc, .slice yA yn yc, .int .i64 cc.h.au, .int .i64 cc.h.ro, .slice cA cn cd, .slice dA dn dc, .int .i64 cc.di, .slice sA sn sc, .slice eA en ec] [.int .i64 2, .int .i64 fr, .int .i64 tt, .int .i64 0, .int .i64 0, .int .i64 0, .slice none 0 0, .int .i64 0, .int .i64 0, .slice none 0 0, .slice none 0 0, .int .i64 0, .int .i64 0, .slice none 0 0, .slice none 0 0, .int .i64 0, .slice none 0 0, .slice none 0 0])
 have hb0 : Below w.heap.size w W := by rw [hW]; exact bel_alloc (bel_alloc (Below.refl _ _))
 clear hW
 have hsz : w.heap.size + 1 < W.heap.size := HBX.out.lt
 have m0 : W.cell? ⟨w.heap.size, 0, none⟩ = some (.int .i64 2) := HBM.out.box.2 0 _ rfl
 have m1 : W.cell? ⟨w.heap.size, 1, none⟩ = some (.int .i64 fr) := HBM.out.box.2 1 _ rfl
 have m2 : W.cell? ⟨w.heap.size, 2, none⟩ = some (.int .i64 tt) := HBM.out.box.2 2 _ rfl
 have m3 : W.cell? ⟨w.heap.size, 3, none⟩ = some (.int .i64 di) := HBM.out.box.2 3 _ rfl
 have x3 : W.cell? ⟨w.heap.size + 1, 3, none⟩ = some (.int .i64 0) := HBX.out.box.2 3 _ rfl
 have f3 : W.frozen? ⟨w.heap.size + 1, 3, none⟩ = false := HBX.out.frozen 3
 cases yd
 ·as_aux_lemma =>
  go_wp2_with (first | (go_at_call 30; (with_reducible refine (refm_May n _ _ HS.out).mono ?_); rintro e w' ⟨rfl, rfl⟩) | (go_at_call 36; (with_reducible refine (ref0_Dig di _ _ HD.out).mono ?_); rintro e w' ⟨rfl, rfl⟩))
  go_ret
  exact ⟨ret_bool (no_y HY.out (by rintro ⟨g0, g1, g2⟩; cases g1)), belB⟩
 go_upto_region 24 with (first | (go_at_call 30; (with_reducible refine (refm_May n _ _ HS.out).mono ?_); rintro e w' ⟨rfl, rfl⟩) | (go_at_call 36; (with_reducible refine (ref0_Dig di _ _ HD.out).mono ?_); rintro e w' ⟨rfl, rfl⟩))
 refine wp_world (fun V hV => ?_)
 have HVM : Hid (Blk V w.heap.size 49 [.int .i64 2, .int .i64 fr, .int .i64 tt, .int .i64 di, .int .i64 b.au, .int .i64 b.n, .slice bA bn bc, .int .i64 hd.au, .int .i64 hd.ro, .slice xA xn xc, .slice yA yn yc, .int .i64 cc.h.au, .int .i64 cc.h.ro, .slice cA cn cd, .slice dA dn dc, .int .i64 cc.di, .slice sA sn sc, .slice eA en ec]) := ħ (by rw [hV]; exact HBM.out.far (by simp) _)
 have HVX : Hid (Blk V (w.heap.size + 1) 49 [.int .i64 2, .int .i64 fr, .int .i64 tt, .int .i64 di, .int .i64 0, .int .i64 0, .slice none 0 0, .int .i64 0, .int .i64 0, .slice none 0 0, .slice none 0 0, .int .i64 0, .int .i64 0, .slice none 0 0, .slice none 0 0, .int .i64 0, .slice none 0 0, .slice none 0 0]) := ħ (by rw [hV]; exact HBX.out.set_ 3 _)
 have hb2 : Below w.heap.size w V := by rw [hV]; exact hb0.setCell (p := ⟨w.heap.size + 1, 3, none⟩) (by simp) _
 clear hV m0 m1 m2 m3 x3 f3 HBM HBX hsz hb0
 refine wp_region_list ?_
 simp only [List.toList_toArray]
 iterate 2 ((refine wpList_plain rfl (fun K hK => ?_)); go_simp; refine hK _ _ ?_; clear hK K; (try simp only [lz]))
 refine wpList_load_midG (by kernel_rfl) 49 _ rfl (w.heap.size + 1) 0 (by simp [Act.eval, Act.put]) [.int .i64 2, .int .i64 fr, .int .i64 tt, .int .i64 di, .int .i64 0, .int .i64 0, .slice none 0 0, .int .i64 0, .int .i64 0, .slice none 0 0, .slice none 0 0, .int .i64 0, .int .i64 0, .slice none 0 0, .slice none 0 0, .int .i64 0, .slice none 0 0, .slice none 0 0] _ HVX.out.rng Tryz.underlying49 (by rfl) (by kernel_rfl) ?_
 (try simp only [lz])
 refine wpList_load_midG (by kernel_rfl) 49 _ rfl w.heap.size 0 (by simp [Act.eval, Act.put]) [.int .i64 2, .int .i64 fr, .int .i64 tt, .int .i64 di, .int .i64 b.au, .int .i64 b.n, .slice bA bn bc, .int .i64 hd.au, .int .i64 hd.ro, .slice xA xn xc, .slice yA yn yc, .int .i64 cc.h.au, .int .i64 cc.h.ro, .slice cA cn cd, .slice dA dn dc, .int .i64 cc.di, .slice sA sn sc, .slice eA en ec] _ HVM.out.rng Tryz.underlying49 (by rfl) (by kernel_rfl) ?_
 (try simp only [lz, List.toList_toArray])
 go_wp2_with fail
 refine (ref0_EqMessageX ⟨⟨none, 0, 0⟩, ⟨⟨none, 0, 0⟩, ⟨none, 0, 0⟩⟩, ⟨⟨⟨none, 0, 0⟩, ⟨none, 0, 0⟩⟩, ⟨none, 0, 0⟩⟩, ⟨none, 0, 0⟩⟩ ⟨⟨bA, bn, bc⟩, ⟨⟨xA, xn, xc⟩, ⟨yA, yn, yc⟩⟩, ⟨⟨⟨cA, cn, cd⟩, ⟨dA, dn, dc⟩⟩, ⟨sA, sn, sc⟩⟩, ⟨eA, en, ec⟩⟩ ⟨2, fr, tt, di, bat0, hea0, cer0, []⟩ ⟨2, fr, tt, di, b, hd, cc, ds⟩ _ (WX _) (HM.out.up (belB)) (Or.inr rfl)).mono ?_
 rintro e w9 ⟨rfl, hb9⟩
 have HE : Hid (dec ((⟨2, fr, tt, di, bat0, hea0, cer0, []⟩ : MsgD) = ⟨2, fr, tt, di, b, hd, cc, ds⟩) = y) := ħ (by rw [Bool.eq_iff_iff, dec_iff, HY.out]; exact ⟨fun g => ⟨HQ.out, by trivial, g⟩, fun g => g.2.2⟩)
 rw [HE.out]
 go_wp2_with fail
 go_ret
 exact ⟨rfl, belB⟩
open Go.RowKit

set_option maxHeartbeats 8000000 in
theorem message_only2 (P : MsgP) (M : MsgD) (n : Int) (y : Bool) (w : World) (hk : M.ki = 2) (hy : digS M.di = y) :
  Calls Tryz.prog 130 #[M18 P M, .int .i64 n] w fun e w' => e = .returned (.tuple #[.agg #[.int .i64 2, .int .i64 M.fr, .int .i64 M.tt, .int .i64 M.di, .int .i64 0, .int .i64 0, .slice none 0 0, .int .i64 0, .int .i64 0, .slice none 0 0, .slice none 0 0, .int .i64 0, .int .i64 0, .slice none 0 0, .slice none 0 0, .int .i64 0, .slice none 0 0, .slice none 0 0], .bool y]) ∧ Below w.heap.size w w' := by
 obtain ⟨⟨bA, bn, bc⟩, ⟨⟨xA, xn, xc⟩, ⟨yA, yn, yc⟩⟩, ⟨⟨⟨cA, cn, cd⟩, ⟨dA, dn, dc⟩⟩, ⟨sA, sn, sc⟩⟩, ⟨eA, en, ec⟩⟩ := P
 obtain ⟨ki, fr, tt, di, b, hd, cc, ds⟩ := M
 dsimp only at hk hy
 subst hk
 have HD := ħ hy
 clear hy
 show Calls Tryz.prog 130 #[.agg #[.int .i64 2, .int .i64 fr, .int .i64 tt, .int .i64 di, .int .i64 b.au, .int .i64 b.n, .slice bA bn bc, .int .i64 hd.au, .int .i64 hd.ro, .slice xA xn xc, .slice yA yn yc, .int .i64 cc.h.au, .int .i64 cc.h.ro, .slice cA cn cd, .slice dA dn dc, .int .i64 cc.di, .slice sA sn sc, .slice eA en ec], .int .i64 n] w fun e w' => e = .returned (.tuple #[.agg #[.int .i64 2, .int .i64 fr, .int .i64 tt, .int .i64 di, .int .i64 0, .int .i64 0, .slice none 0 0, .int .i64 0, .int .i64 0, .slice none 0 0, .slice none 0 0, .int .i64 0, .int .i64 0, .slice none 0 0, .slice none 0 0, .int .i64 0, .slice none 0 0, .slice none 0 0], .bool y]) ∧ Below w.heap.size w w'
 go_enter Tryz.func130, Tryz.ntmps130
 go_upto_region 2 with fail
 refine wp_world (fun W hW => ?_)
 have HBM : Hid (Blk W w.heap.size 49 [.int .i64 2, .int .i64 fr, .int .i64 tt, .int .i64 di, .int .i64 b.au, .int .i64 b.n, .slice bA bn bc, .int .i64 hd.au, .int .i64 hd.ro, .slice xA xn xc, .slice yA yn yc, .int .i64 cc.h.au, .int .i64 cc.h.ro, .slice cA cn cd, .slice dA dn dc, .int .i64 cc.di, .slice sA sn sc, .slice eA en ec]) := ħ (by rw [hW]; exact (Blk.new w 49 [.int .i64 2, .int .i64 fr, .int .i64 tt, .int .i64 di, .int .i64 b.au, .int .i64 b.n, .slice bA bn bc, .int .i64 hd.au, .int .i64 hd.ro, .slice xA xn xc, .slice yA yn yc, .int .i64 cc.h.au, .int .i64 cc.h.ro, .slice cA cn cd, .slice dA dn dc, .int .i64 cc.di, .slice sA sn sc, .slice eA en ec]).up (bel_alloc (Below.refl _ _)))
 have HBX : Hid (Blk W (w.heap.size + 1) 49 [.int .i64 2, .int .i64 fr, .int .i64 tt, .int .i64 0, .int .i64 0, .int .i64 0, .slice none 0 0, .int .i64 0, .int .i64 0, .slice none 0 0, .slice none 0 0, .int .i64 0, .int .i64 0, .slice none 0 0, .slice none 0 0, .int .i64 0, .slice none 0 0, .slice none 0 0]) := ħ (by rw [hW]; exact Blk.new1 w 49 49 [.int .i64 2, .int .i64 fr, .int .i64 tt, .int .i64 di, .int .i64 b.au, .int .i64 b.n, .slice bA bn bc, .int .i64 hd.au, .int .i64 hd.ro, .slice xA xn xc, .slice yA yn yc, .int .i64 cc.h.au, .int .i64 cc.h.ro, .slice cA cn cd, .slice dA dn dc, .int .i64 cc.di, .slice sA sn sc, .slice eA en ec] [.int .i64 2, .int .i64 fr, .int .i64 tt, .int .i64 0, .int .i64 0, .int .i64 0, .slice none 0 0, .int .i64 0, .int .i64 0, .slice none 0 0, .slice none 0 0, .int .i64 0, .int .i64 0, .slice none 0 0, .slice none 0 0, .int .i64 0, .slice none 0 0, .slice none 0 0])
 have hb0 : Below w.heap.size w W := by rw [hW]; exact bel_alloc (bel_alloc (Below.refl _ _))
 clear hW
 have hsz : w.heap.size + 1 < W.heap.size := HBX.out.lt
 have m0 : W.cell? ⟨w.heap.size, 0, none⟩ = some (.int .i64 2) := HBM.out.box.2 0 _ rfl
 have m3 : W.cell? ⟨w.heap.size, 3, none⟩ = some (.int .i64 di) := HBM.out.box.2 3 _ rfl
 have x3 : W.cell? ⟨w.heap.size + 1, 3, none⟩ = some (.int .i64 0) := HBX.out.box.2 3 _ rfl
 have f3 : W.frozen? ⟨w.heap.size + 1, 3, none⟩ = false := HBX.out.frozen 3
 go_upto_region 21 with (go_at_call 110; (with_reducible refine (comm_Digest di _ _ HD.out).mono ?_); rintro e w' ⟨rfl, rfl⟩)
 refine wp_world (fun V hV => ?_)
 have HVX : Hid (Blk V (w.heap.size + 1) 49 [.int .i64 2, .int .i64 fr, .int .i64 tt, .int .i64 di, .int .i64 0, .int .i64 0, .slice none 0 0, .int .i64 0, .int .i64 0, .slice none 0 0, .slice none 0 0, .int .i64 0, .int .i64 0, .slice none 0 0, .slice none 0 0, .int .i64 0, .slice none 0 0, .slice none 0 0]) := ħ (by rw [hV]; exact HBX.out.set_ 3 _)
 have hb2 : Below w.heap.size w V := by rw [hV]; exact hb0.setCell (p := ⟨w.heap.size + 1, 3, none⟩) (by simp) _
 clear hV m0 m3 x3 f3 HBM HBX hsz hb0
 as_aux_lemma =>
  refine wp_region_list ?_
  simp only [List.toList_toArray]
  refine wpList_load_mid rfl 49 _ rfl (w.heap.size + 1) 0 (by simp [Act.eval, Act.put]) [.int .i64 2, .int .i64 fr, .int .i64 tt, .int .i64 di, .int .i64 0, .int .i64 0, .slice none 0 0, .int .i64 0, .int .i64 0, .slice none 0 0, .slice none 0 0, .int .i64 0, .int .i64 0, .slice none 0 0, .slice none 0 0, .int .i64 0, .slice none 0 0, .slice none 0 0] _ HVX.out.rng Tryz.underlying49 (by rfl) (by kernel_rfl) ?_
  (try simp only [lz])
  refine wpList_plain rfl (fun K hK => ?_)
  go_simp
  refine hK _ _ ?_
  clear hK K
  (try simp only [lz])
  refine wpList_store_mid rfl 49 _ _ rfl (w.heap.size + 1) 0 ([.int .i64 2, .int .i64 fr, .int .i64 tt, .int .i64 di, .int .i64 0, .int .i64 0, .slice none 0 0, .int .i64 0, .int .i64 0, .slice none 0 0, .slice none 0 0, .int .i64 0, .int .i64 0, .slice none 0 0, .slice none 0 0, .int .i64 0, .slice none 0 0, .slice none 0 0]).toArray (by simp [Act.eval, Act.put]) (by simp [Act.eval, Act.put]) HVX.out.thr (by kernel_rfl) (all_oneCell_toArray (by simp [Value.oneCell'])) ?_
  (try simp only [lz])
  refine wpList_plain rfl (fun K hK => ?_)
  go_simp
  refine hK _ _ ?_
  clear hK K
  (try simp only [lz])
  refine wpList_nil ?_
  have hrg : (V.setCells (w.heap.size + 1) 0 [.int .i64 2, .int .i64 fr, .int .i64 tt, .int .i64 di, .int .i64 0, .int .i64 0, .slice none 0 0, .int .i64 0, .int .i64 0, .slice none 0 0, .slice none 0 0, .int .i64 0, .int .i64 0, .slice none 0 0, .slice none 0 0, .int .i64 0, .slice none 0 0, .slice none 0 0]).rangeAt (w.heap.size + 1) 0 [.int .i64 2, .int .i64 fr, .int .i64 tt, .int .i64 di, .int .i64 0, .int .i64 0, .slice none 0 0, .int .i64 0, .int .i64 0, .slice none 0 0, .slice none 0 0, .int .i64 0, .int .i64 0, .slice none 0 0, .slice none 0 0, .int .i64 0, .slice none 0 0, .slice none 0 0] := World.rangeAt_setCells_same V (w.heap.size + 1) 0 [.int .i64 2, .int .i64 fr, .int .i64 tt, .int .i64 di, .int .i64 0, .int .i64 0, .slice none 0 0, .int .i64 0, .int .i64 0, .slice none 0 0, .slice none 0 0, .int .i64 0, .int .i64 0, .slice none 0 0, .slice none 0 0, .int .i64 0, .slice none 0 0, .slice none 0 0] HVX.out.thr
  have hb3 : Below w.heap.size w (V.setCells (w.heap.size + 1) 0 [.int .i64 2, .int .i64 fr, .int .i64 tt, .int .i64 di, .int .i64 0, .int .i64 0, .slice none 0 0, .int .i64 0, .int .i64 0, .slice none 0 0, .slice none 0 0, .int .i64 0, .int .i64 0, .slice none 0 0, .slice none 0 0, .int .i64 0, .slice none 0 0, .slice none 0 0]) := bel_setCells (by omega) _ _ _ hb2
  try simp only [List.toList_toArray]
  obtain ⟨U, hU⟩ : ∃ U, U = V.setCells (w.heap.size + 1) 0 [.int .i64 2, .int .i64 fr, .int .i64 tt, .int .i64 di, .int .i64 0, .int .i64 0, .slice none 0 0, .int .i64 0, .int .i64 0, .slice none 0 0, .slice none 0 0, .int .i64 0, .int .i64 0, .slice none 0 0, .slice none 0 0, .int .i64 0, .slice none 0 0, .slice none 0 0] := ⟨_, rfl⟩
  rw [← hU] at hrg hb3 ⊢
  clear hU HVX hb2
  as_aux_lemma =>
   have c0 : U.cell? ⟨w.heap.size + 1, 0, none⟩ = _ := hrg 0 _ rfl
   have c1 : U.cell? ⟨w.heap.size + 1, 1, none⟩ = _ := hrg 1 _ rfl
   have c2 : U.cell? ⟨w.heap.size + 1, 2, none⟩ = _ := hrg 2 _ rfl
   have c3 : U.cell? ⟨w.heap.size + 1, 3, none⟩ = _ := hrg 3 _ rfl
   have c4 : U.cell? ⟨w.heap.size + 1, 4, none⟩ = _ := hrg 4 _ rfl
   have c5 : U.cell? ⟨w.heap.size + 1, 5, none⟩ = _ := hrg 5 _ rfl
   have c6 : U.cell? ⟨w.heap.size + 1, 6, none⟩ = _ := hrg 6 _ rfl
   have c7 : U.cell? ⟨w.heap.size + 1, 7, none⟩ = _ := hrg 7 _ rfl
   have c8 : U.cell? ⟨w.heap.size + 1, 8, none⟩ = _ := hrg 8 _ rfl
   have c9 : U.cell? ⟨w.heap.size + 1, 9, none⟩ = _ := hrg 9 _ rfl
   have c10 : U.cell? ⟨w.heap.size + 1, 10, none⟩ = _ := hrg 10 _ rfl
   have c11 : U.cell? ⟨w.heap.size + 1, 11, none⟩ = _ := hrg 11 _ rfl
   have c12 : U.cell? ⟨w.heap.size + 1, 12, none⟩ = _ := hrg 12 _ rfl
   have c13 : U.cell? ⟨w.heap.size + 1, 13, none⟩ = _ := hrg 13 _ rfl
   have c14 : U.cell? ⟨w.heap.size + 1, 14, none⟩ = _ := hrg 14 _ rfl
   have c15 : U.cell? ⟨w.heap.size + 1, 15, none⟩ = _ := hrg 15 _ rfl
   have c16 : U.cell? ⟨w.heap.size + 1, 16, none⟩ = _ := hrg 16 _ rfl
   have c17 : U.cell? ⟨w.heap.size + 1, 17, none⟩ = _ := hrg 17 _ rfl
   go_wp2_with fail
   refine bodyPost_ret (v := .tuple #[.agg #[.int .i64 2, .int .i64 fr, .int .i64 tt, .int .i64 di, .int .i64 0, .int .i64 0, .slice none 0 0, .int .i64 0, .int .i64 0, .slice none 0 0, .slice none 0 0, .int .i64 0, .int .i64 0, .slice none 0 0, .slice none 0 0, .int .i64 0, .slice none 0 0, .slice none 0 0], .bool y]) (by simp [results, Tryz.results130, go_sem, c0, c1, c2, c3, c4, c5, c6, c7, c8, c9, c10, c11, c12, c13, c14, c15, c16, c17]) rfl ⟨rfl, hb3⟩

open Go.RowKit

theorem message_May2' (P : MsgP) (M : MsgD) (n : Int) (y : Bool) (w : World) (h : MsgR w P M) (hk : M.ki = 2) (hh : hdM M n) (hy : msgB M n = y) :
  Calls Tryz.prog 94 #[M18 P M, .int .i64 n] w fun e w' => e = .returned (.bool y) ∧ Below w.heap.size w w' := by
 have h1 := msgB_of (yd := digS M.di) (O := ⟨M.ki, M.fr, M.tt, M.di, bat0, hea0, cer0, []⟩) hh hy (by unfold okM; rw [if_neg (by simp [hk]), if_pos hk]) (by unfold onlyD; rw [if_neg (by simp [hk]), if_pos hk])
 have hR : MsgR w ⟨⟨none, 0, 0⟩, ⟨⟨none, 0, 0⟩, ⟨none, 0, 0⟩⟩, ⟨⟨⟨none, 0, 0⟩, ⟨none, 0, 0⟩⟩, ⟨none, 0, 0⟩⟩, ⟨none, 0, 0⟩⟩ (⟨M.ki, M.fr, M.tt, M.di, bat0, hea0, cer0, []⟩ : MsgD) := ⟨TxsR.nil _ _, HeaderR.nil _, CertR.nil _, IntsR.nil _ _⟩
 refine message_May_of P ⟨⟨none, 0, 0⟩, ⟨⟨none, 0, 0⟩, ⟨none, 0, 0⟩⟩, ⟨⟨⟨none, 0, 0⟩, ⟨none, 0, 0⟩⟩, ⟨none, 0, 0⟩⟩, ⟨none, 0, 0⟩⟩ M ⟨M.ki, M.fr, M.tt, M.di, bat0, hea0, cer0, []⟩ n (digS M.di) y w hh (fun u hu => (message_only2 P M n _ u hk rfl).mono (fun e w' he => by rw [show M.ki = 2 from hk]; exact he)) ?_
 rw [mayC_iff h hR ⟨rfl, rfl, rfl⟩ (.inr rfl) rfl rfl rfl rfl rfl (.inr rfl)]
 exact h1
theorem takesK2 : TakesK 2 := ⟨by unfold takes4; omega, message_May2', ref4_Message2⟩
open Go.RowKit

theorem blk_grownT {w w' : World} {B g k n : Nat} {t t' : TypeId} {v : Value} {cs xs : List Value} (h : Blk w g t cs) (hv : w.ownsRow B t' k v n xs) (hne : t ≠ t') (hg : w.grownBy w' v.ownBlock) : Blk w' g t cs := h.of_heap (hg.block g h.lt (fun e => by
 obtain ⟨_, c2, e2⟩ := own_typeB hv g e.symm
 have hb' : w.heap[g]? = some (.cells cs.toArray t (0, 0)) := h
 rw [hb'] at e2
 injection e2 with e2
 injection e2 with _ e3 _
 exact hne e3))
open Go.RowKit

set_option maxHeartbeats 2000000 in
theorem slices_Insert_Int_end (w : World) (B : Nat) (v : Value) (n i : Nat) (xs e : List Value) (vb : Nat) (hown : w.ownsRow B 3 1 v n xs) (hi : i = n) (hn : n ≤ 900000000) (hv : Blk w vb 3 e) (hvb : (v).ownBlock ≠ some vb) (h1x : ∀ u ∈ xs, u.oneCell' = true) (h1e : ∀ u ∈ e, u.oneCell' = true) (he : e.length = 1) (hB : B ≤ w.heap.size) :
  Calls Tryz.prog 155 #[v, .int .i64 i, .slice (some ⟨vb, 0, none⟩) 1 1] w fun r w' => ∃ v', r = .returned v' ∧ w'.ownsRow B 3 1 v' (n + 1) (xs.take (i) ++ e ++ xs.drop (i)) ∧ Below B w w' ∧ w.grownBy w' (v).ownBlock ∧ (v'.ownBlock = (v).ownBlock ∨ v'.ownBlock = some w.heap.size) := by
 have hbox := hv.box
 have hxl : xs.length = n := by have h9 := hown.1; omega
 subst hi
 obtain ⟨v', w', hrun, h2, h3, h4, h5⟩ := run_app_Int w B v i xs hown vb 0 1 1 e (by rw [he]) (fun j u hu => by rw [Nat.zero_add]; exact hbox.2 j u hu) h1e (by omega) hB
 have hx : xs.take (i) ++ (e ++ xs.drop (i)) = xs ++ e := by rw [← hxl, List.take_length, List.drop_length, List.append_nil]
 rw [← hx] at h2
 have H2 := ħ h2
 clear hx h2 h1x h1e he hv hbox
 obtain ⟨A, c, rfl, hrow, _, hnc, hc⟩ := own_row hown (by omega)
 clear hrow hown hxl
 cases A
 all_goals
  go_enter Tryz.func155, Tryz.ntmps155
  go_wp2_with (at_builtin; refine Lib.wpList_append_run _ rfl _ _ _ _ rfl _ _ rfl rfl _ _ hrun ?_)
  all_goals
   go_ret
   exact ⟨v', rfl, by first | exact H2.out | (have a := H2.out; simpa [List.append_assoc] using a), h4, h3, h5⟩
set_option maxHeartbeats 2000000 in
theorem slices_Insert_Int_room (w : World) (B : Nat) (n i : Nat) (xs e : List Value) (vb : Nat) (g cap : Nat) (cur : Array Value) (hown : w.ownsRow B 3 1 (Value.slice (some ⟨g, 0, none⟩) n cap) n xs) (hi : i < n) (hn : n ≤ 900000000) (hv : Blk w vb 3 e) (hvb : (Value.slice (some ⟨g, 0, none⟩) n cap).ownBlock ≠ some vb) (h1x : ∀ u ∈ xs, u.oneCell' = true) (h1e : ∀ u ∈ e, u.oneCell' = true) (he : e.length = 1) (hB : B ≤ w.heap.size) (hBg : B ≤ g) (hg : w.heap[g]? = some (.cells cur 3 (0, 0))) (hnc : n ≤ cap) (hcm : cap ≤ maxLen) (hsz : cur.size = cap) (htk : cur.toList.take (n) = xs) (hroom : n < cap) :
  Calls Tryz.prog 155 #[Value.slice (some ⟨g, 0, none⟩) n cap, .int .i64 i, .slice (some ⟨vb, 0, none⟩) 1 1] w fun r w' => ∃ v', r = .returned v' ∧ w'.ownsRow B 3 1 v' (n + 1) (xs.take (i) ++ e ++ xs.drop (i)) ∧ Below B w w' ∧ w.grownBy w' (Value.slice (some ⟨g, 0, none⟩) n cap).ownBlock ∧ (v'.ownBlock = (Value.slice (some ⟨g, 0, none⟩) n cap).ownBlock ∨ v'.ownBlock = some w.heap.size) := by
 have hbox := hv.box
 have hxl : xs.length = n := by have h9 := hown.1; omega
 have hgl : g < w.heap.size := (Array.getElem?_eq_some_iff.1 hg).1
 have hvl : vb < w.heap.size := hv.lt
 have hgv : g ≠ vb := fun h => hvb (by rw [h]; rfl)
 have hcm' : cap ≤ 9223372036854775807 := by simpa [maxLen] using hcm
 have hszi : (Tryz.prog.info? 3).map (·.size) = some 1 := by
  obtain ⟨i0, hi0, h0, h1, h2⟩ := info_parts info_Int
  rw [hi0]; simp [h1]
 have hcell : ∀ j u, xs[j]? = some u → w.cell? ⟨g, j, none⟩ = some u := fun j u hj => by
  have := World.ownsRow.cells hown (g := g) rfl j u hj
  simpa [Addr.add_lit] using this
 have hw1 : IntKind.i64.wrap ((i : Int) + 1) = (i : Int) + 1 := by rw [IntKind.wrap_i64]; omega
 have hb1 : (0 : Int) ≤ (i : Int) + 1 := by omega
 have htn : ((i : Int) + 1).toNat = i + 1 := by omega
 have hb3 : (i : Int) ≤ (n : Int) := by omega
 have hb4 : (i : Int) ≤ (n : Int) + 1 := by omega
 have hin : i ≤ n := by omega
 have hbs : ∃ tA kA, w.shape? vb = some (tA, kA) ∧ w.frozen? ⟨vb, kA, none⟩ = false := ⟨3, e.length, by unfold Blk at hv; simp [World.shape?, hv], hv.frozen _⟩
 obtain ⟨tA, kA, hsa, hfe⟩ := hbs
 have hsb : w.shape? g = some (3, cur.size) := by simp [World.shape?, hg]
 have hks : cur.size ≠ 0 := by rw [hsz]; omega
 have hov : ∀ lb cb, (callFunc 165 #[.slice (some ⟨vb, 0, none⟩) 1 1, .slice (some ⟨g, (i + 1), none⟩) lb cb]).run Tryz.prog w = .ok (.value (.bool false)) w := fun lb cb => by
  rw [run_callFunc_extern (P := Tryz.prog) (fn := Tryz.f165) (by kernel_rfl) (by kernel_rfl) (by kernel_rfl) (by kernel_rfl) (e := Extern.SlicesOverlaps.overlaps #[25, 25] #[4]) (by kernel_rfl),
   Lib.run_overlaps_apart w 25 4 3 Tryz.underlying25 1 (by intro w; exact Tryz.sizeOf3 w) ⟨vb, 0, none⟩ ⟨g, (i + 1), none⟩ 1 1 lb cb (fun h => hgv h.symm) tA 3 kA cur.size hsa hsb hks (hv.frozen _) hfe]
  rfl
 have hmin1 : Nat.min (n + 1 - i) (n - i) = n - i := by simp only [Nat.min_def]; split <;> omega
 have hmin2 : Nat.min 1 (n + 1 - i) = 1 := by simp only [Nat.min_def]; split <;> omega
 have hdl : (xs.drop (i)).length = (n - i) := by rw [List.length_drop, hxl]
 obtain ⟨r1, hr1⟩ : ∃ r1, r1 = cur.toList.take ((i + 1)) ++ xs.drop (i) ++ cur.toList.drop ((i + 1) + (xs.drop (i)).length) := ⟨_, rfl⟩
 obtain ⟨r2, hr2⟩ : ∃ r2, r2 = r1.take (i) ++ e ++ r1.drop (i + e.length) := ⟨_, rfl⟩
 have hcs : cur.toList.length = cap := by simpa using hsz
 have hins := ins_room (a := i) (N := n) (k := 1) (R := cur.toList) hxl he (by omega) htk (by omega)
 rw [← hr1, ← hr2] at hins
 have hr1l : r1.length = cap := by
  rw [hr1]; simp only [List.length_append, List.length_take, List.length_drop, hcs, hxl]; omega
 have hcp1 : ∀ (W : World), W.heap = w.heap → ∀ ty dc sc, (Builtin.copy_ #[25, 25] ty #[.slice (some ⟨g, (i + 1), none⟩) (n - i) dc, .slice (some ⟨g, i, none⟩) (n + 1 - i) sc]).run Tryz.prog W = .ok (goInt (n - i : Nat)) (W.setRow g r1.toArray) := fun W hW ty dc sc => by
  have h := run_copyK W 25 25 ty 3 g ((i + 1)) (n - i) dc ⟨g, i, none⟩ (n + 1 - i) sc 1 cur 3 (xs.drop (i)) Tryz.underlying25 hszi (by rw [hW]; exact hg) (by rw [hmin1, hdl, Nat.mul_one])
   (fun j u hj => by
    rw [Addr.add_lit]
    rw [List.getElem?_drop] at hj
    exact (World.cell?_of_block (w := w) (w' := W) (a := ⟨g, i + j, none⟩) (by rw [hW])).trans (hcell _ u hj)) (by rw [hdl, hsz]; omega) (fun u hu => h1x u (List.mem_of_mem_drop hu))
  rw [hmin1, ← hr1] at h
  exact h
 have hcp2 : ∀ (W : World), W.heap = (w.setRow g r1.toArray).heap → ∀ ty dc, (Builtin.copy_ #[25, 25] ty #[.slice (some ⟨g, i, none⟩) (n + 1 - i) dc, .slice (some ⟨vb, 0, none⟩) 1 1]).run Tryz.prog W = .ok (goInt (1 : Nat)) (W.setRow g r2.toArray) := fun W hW ty dc => by
  have h := run_copyK W 25 25 ty 3 g (i) (n + 1 - i) dc ⟨vb, 0, none⟩ 1 1 1 r1.toArray 3 e Tryz.underlying25 hszi (by rw [hW]; exact setRow_heap w g cur _ _ _ hg) (by rw [hmin2, he])
   (fun j u hj => by
    rw [Addr.add_lit, Nat.zero_add]
    exact (World.cell?_of_block (w := w) (w' := W) (a := ⟨vb, j, none⟩) (by rw [hW]; exact setRow_other w g vb _ (fun h => hgv h.symm))).trans (hbox.2 j u hj)) (by simp only [List.size_toArray]; omega) h1e
  rw [hmin2] at h
  simp only [List.toList_toArray] at h
  rw [← hr2] at h
  exact h
 have hfin : ∀ W : World, W.heap = ((w.setRow g r1.toArray).setRow g r2.toArray).heap → W.os = w.os → W.tape = w.tape → W.output = w.output → W.ownsRow B 3 1 (.slice (some ⟨g, 0, none⟩) (n + 1) cap) (n + 1) (xs.take (i) ++ (e ++ xs.drop (i))) ∧ Below B w W ∧ w.grownBy W (Value.slice (some ⟨g, 0, none⟩) n cap).ownBlock := fun W hW h1 h2 h3 => by
  have hsz2 : W.heap.size = w.heap.size := by rw [hW]; simp
  have hblk : ∀ k, k ≠ g → W.heap[k]? = w.heap[k]? := fun k hk => by rw [hW, setRow_other _ _ _ _ hk, setRow_other _ _ _ _ hk]
  refine ⟨⟨by simp only [List.length_append, List.length_take, List.length_drop, he, hxl]; omega, .inr ⟨g, cap, r2.toArray, rfl, hBg, ?_, by omega, hcm, ?_, ?_⟩⟩, ⟨h1, h2, h3, by omega, fun k hk => hblk k (by omega)⟩, ⟨h1, h2, h3, by omega, fun k hk hne => hblk k (fun h => hne (by rw [h]; rfl))⟩⟩
  ·rw [hW]; exact setRow_heap _ g r1.toArray _ _ _ (setRow_heap w g cur _ _ _ hg)
  ·have := hins.2; rw [List.size_toArray, this, Nat.mul_one]; exact hcs
  ·have := hins.1; rw [← List.append_assoc, Nat.mul_one]; exact this
 have HF := ħ hfin
 have hci : ¬ (cap = i + 1) := by omega
 have hci2 : ¬ (cap = i) := by omega
 clear hfin hins hr1 hr2 hdl hmin1 hmin2 hown hxl htk hsz hcs h1x h1e he hv hbox hcell hsa hfe hsb hks
 go_enter Tryz.func155, Tryz.ntmps155
 go_wp2_with (simp only [hov])
 go_region_law (refine step_copy_runR rfl _ _ 25 25 rfl (.slice (some ⟨g, (i + 1), none⟩) (n - i) (cap - (i + 1))) (.slice (some ⟨g, i, none⟩) (n + 1 - i) (cap - i)) (by simp [Act.eval, Act.put]) (by simp [Act.eval, Act.put]) (hcp1 _ (by rfl) 3 (cap - (i + 1)) (cap - i)) ?_)
 have hcp3 := hcp2 (w.drew.setRow g r1.toArray) rfl 3 (cap - i)
 go_wp2_with fail
 go_ret
 obtain ⟨a1, a2, a3⟩ := HF.out ((w.drew.setRow g r1.toArray).setRow g r2.toArray) rfl rfl rfl rfl
 exact ⟨_, rfl, by first | exact a1 | (simpa [List.append_assoc] using a1), a2, a3, .inl rfl⟩
set_option maxHeartbeats 2000000 in
theorem slices_Insert_Int_grow (w : World) (B : Nat) (n i : Nat) (xs e : List Value) (vb : Nat) (g cap : Nat) (cur : Array Value) (hown : w.ownsRow B 3 1 (Value.slice (some ⟨g, 0, none⟩) n cap) n xs) (hi : i < n) (hn : n ≤ 900000000) (hv : Blk w vb 3 e) (hvb : (Value.slice (some ⟨g, 0, none⟩) n cap).ownBlock ≠ some vb) (h1x : ∀ u ∈ xs, u.oneCell' = true) (h1e : ∀ u ∈ e, u.oneCell' = true) (he : e.length = 1) (hB : B ≤ w.heap.size) (hBg : B ≤ g) (hg : w.heap[g]? = some (.cells cur 3 (0, 0))) (hnc : n ≤ cap) (hcm : cap ≤ maxLen) (hsz : cur.size = cap) (htk : cur.toList.take (n) = xs) (hroom : cap ≤ n) :
  Calls Tryz.prog 155 #[Value.slice (some ⟨g, 0, none⟩) n cap, .int .i64 i, .slice (some ⟨vb, 0, none⟩) 1 1] w fun r w' => ∃ v', r = .returned v' ∧ w'.ownsRow B 3 1 v' (n + 1) (xs.take (i) ++ e ++ xs.drop (i)) ∧ Below B w w' ∧ w.grownBy w' (Value.slice (some ⟨g, 0, none⟩) n cap).ownBlock ∧ (v'.ownBlock = (Value.slice (some ⟨g, 0, none⟩) n cap).ownBlock ∨ v'.ownBlock = some w.heap.size) := by
 have hbox := hv.box
 have hxl : xs.length = n := by have h9 := hown.1; omega
 have hgl : g < w.heap.size := (Array.getElem?_eq_some_iff.1 hg).1
 have hvl : vb < w.heap.size := hv.lt
 have hgv : g ≠ vb := fun h => hvb (by rw [h]; rfl)
 have hcm' : cap ≤ 9223372036854775807 := by simpa [maxLen] using hcm
 have hszi : (Tryz.prog.info? 3).map (·.size) = some 1 := by
  obtain ⟨i0, hi0, h0, h1, h2⟩ := info_parts info_Int
  rw [hi0]; simp [h1]
 have hcell : ∀ j u, xs[j]? = some u → w.cell? ⟨g, j, none⟩ = some u := fun j u hj => by
  have := World.ownsRow.cells hown (g := g) rfl j u hj
  simpa [Addr.add_lit] using this
 have hw1 : IntKind.i64.wrap ((i : Int) + 1) = (i : Int) + 1 := by rw [IntKind.wrap_i64]; omega
 have hb1 : (0 : Int) ≤ (i : Int) + 1 := by omega
 have htn : ((i : Int) + 1).toNat = i + 1 := by omega
 have hb3 : (i : Int) ≤ (n : Int) := by omega
 have hb4 : (i : Int) ≤ (n : Int) + 1 := by omega
 have hin : i ≤ n := by omega
 obtain ⟨i0, hi0, hz0, hzs, hzb⟩ := info_parts info_Int
 have hcn : cap = n := by omega
 have hold : (Builtin.firstCells i0.size i (.slice (some ⟨g, 0, none⟩) i cap)).run Tryz.prog w.drew = .ok (xs.take (i)).toArray w.drew := by
  rw [hzs]
  exact run_firstCells_some w.drew 1 i ⟨g, 0, none⟩ i cap (xs.take (i)) (by rw [List.length_take]; omega) (fun j u hj => by
   rw [Addr.add_lit, Nat.zero_add]
   rw [List.getElem?_take] at hj
   split at hj
   ·exact hcell j u hj
   ·cases hj)
 obtain ⟨G, hG⟩ : ∃ G, G = grownCap w (n + 1) cap 3 := ⟨_, rfl⟩
 obtain ⟨ROW, hROW⟩ : ∃ ROW : Array Value, ROW = (xs.take (i)).toArray ++ Builtin.zeroCells (.int .i64 0 : Value).cells (n + 1 - i) ++ Builtin.zeroCells (.int .i64 0 : Value).cells (G - (n + 1)) := ⟨_, rfl⟩
 have hrz : (Builtin.append_ #[25, 3] 25 #[.slice (some ⟨g, 0, none⟩) i cap, .int .i64 ((n : Int) + 1 - (i : Int))]).run Tryz.prog w =
   .ok (.slice (some ⟨w.heap.size, 0, none⟩) (n + 1) G) (w.drew.alloc (.cells ROW 3)) := by
  have h := Lib.run_append_grow_zeros w 25 3 25 3 i0 _ .i64 .i64 Tryz.underlying25 Tryz.underlying3 hi0 hz0 (some ⟨g, 0, none⟩) i cap (xs.take (i)) hold (n + 1 - i) (by omega) (by omega) (by omega) (by omega) (by rw [hzb]; omega) (by rw [hzb]; exact growslice_fits (by omega) (by omega))
  rw [show i + (n + 1 - i) = n + 1 by omega, ← hG, ← hROW] at h
  rw [show (n : Int) + 1 - (i : Int) = ((n + 1 - i : Nat) : Int) by omega]
  exact h
 have hGn : n + 1 ≤ G := by rw [hG]; exact grownCap_ge w _ _ _
 have hG63 : G ≤ 9223372036854775807 := by
  have := grownCap_le_maxLen w (n + 1) cap 3 (by unfold maxLen; omega)
  rw [← hG] at this
  simpa [maxLen] using this
 have hRl : ROW.size = G := by
  rw [hROW]
  simp [Builtin.zeroCells, Value.cells, hxl]
  omega
 have hRt : ROW.toList.take (i) = xs.take (i) := by
  rw [hROW]
  simp only [Array.toList_append, List.append_assoc]
  rw [List.take_left' (by simp [hxl]; omega)]
 obtain ⟨W1, hW1⟩ : ∃ W1, W1 = w.alloc (.cells ROW 3) := ⟨_, rfl⟩
 have hW1h : W1.heap[w.heap.size]? = some (.cells ROW 3 (0, 0)) := by rw [hW1]; exact heap_alloc_new w _
 have hW1o : ∀ k, k < w.heap.size → W1.heap[k]? = w.heap[k]? := fun k hk => by rw [hW1]; exact ((Below.refl w.heap.size w).alloc (Nat.le_refl _) _).block k hk
 have hW1s : W1.heap.size = w.heap.size + 1 := by rw [hW1]; simp
 have hmin1 : Nat.min (n - i) (n - i) = n - i := by simp only [Nat.min_def]; split <;> omega
 have hmin2 : Nat.min 1 (n + 1 - i) = 1 := by simp only [Nat.min_def]; split <;> omega
 have hdl : (xs.drop (i)).length = (n - i) := by rw [List.length_drop, hxl]
 obtain ⟨r1, hr1⟩ : ∃ r1, r1 = ROW.toList.take (i) ++ e ++ ROW.toList.drop (i + e.length) := ⟨_, rfl⟩
 obtain ⟨r2, hr2⟩ : ∃ r2, r2 = r1.take ((i + 1)) ++ xs.drop (i) ++ r1.drop ((i + 1) + (xs.drop (i)).length) := ⟨_, rfl⟩
 have hcs : ROW.toList.length = G := by simpa using hRl
 have hins := ins_new (a := i) (N := n) (k := 1) (R := ROW.toList) hxl he (by omega) hRt (by omega)
 rw [← hr1, ← hr2] at hins
 have hr1l : r1.length = G := by
  rw [hr1]; simp only [List.length_append, List.length_take, List.length_drop, hcs, he]; omega
 have hcpA : ∀ (W : World), W.heap = W1.heap → ∀ ty dc, (Builtin.copy_ #[25, 25] ty #[.slice (some ⟨w.heap.size, i, none⟩) (n + 1 - i) dc, .slice (some ⟨vb, 0, none⟩) 1 1]).run Tryz.prog W = .ok (goInt (1 : Nat)) (W.setRow w.heap.size r1.toArray) := fun W hW ty dc => by
  have h := run_copyK W 25 25 ty 3 w.heap.size (i) (n + 1 - i) dc ⟨vb, 0, none⟩ 1 1 1 ROW 3 e Tryz.underlying25 hszi (by rw [hW]; exact hW1h) (by rw [hmin2, he])
   (fun j u hj => by
    rw [Addr.add_lit, Nat.zero_add]
    exact (World.cell?_of_block (w := w) (w' := W) (a := ⟨vb, j, none⟩) (by rw [hW]; exact hW1o vb hvl)).trans (hbox.2 j u hj)) (by rw [hRl, he]; omega) h1e
  rw [hmin2, ← hr1] at h
  exact h
 have hcpB : ∀ (W : World), W.heap = (W1.setRow w.heap.size r1.toArray).heap → ∀ ty dc sc, (Builtin.copy_ #[25, 25] ty #[.slice (some ⟨w.heap.size, (i + 1), none⟩) (n - i) dc, .slice (some ⟨g, i, none⟩) (n - i) sc]).run Tryz.prog W = .ok (goInt (n - i : Nat)) (W.setRow w.heap.size r2.toArray) := fun W hW ty dc sc => by
  have h := run_copyK W 25 25 ty 3 w.heap.size ((i + 1)) (n - i) dc ⟨g, i, none⟩ (n - i) sc 1 r1.toArray 3 (xs.drop (i)) Tryz.underlying25 hszi (by rw [hW]; exact setRow_heap W1 _ ROW _ _ _ hW1h) (by rw [hmin1, hdl, Nat.mul_one])
   (fun j u hj => by
    rw [Addr.add_lit]
    rw [List.getElem?_drop] at hj
    exact (World.cell?_of_block (w := w) (w' := W) (a := ⟨g, i + j, none⟩) (by rw [hW, setRow_other _ _ _ _ (by show g ≠ w.heap.size; omega)]; exact hW1o g hgl)).trans (hcell _ u hj)) (by simp only [List.size_toArray]; rw [hdl]; omega) (fun u hu => h1x u (List.mem_of_mem_drop hu))
  rw [hmin1] at h
  simp only [List.toList_toArray] at h
  rw [← hr2] at h
  exact h
 have hfin : ∀ W : World, W.heap = ((W1.setRow w.heap.size r1.toArray).setRow w.heap.size r2.toArray).heap → W.os = w.os → W.tape = w.tape → W.output = w.output → W.ownsRow B 3 1 (.slice (some ⟨w.heap.size, 0, none⟩) (n + 1) G) (n + 1) (xs.take (i) ++ (e ++ xs.drop (i))) ∧ Below B w W ∧ w.grownBy W (Value.slice (some ⟨g, 0, none⟩) n cap).ownBlock := fun W hW h1 h2 h3 => by
  have hsz2 : W.heap.size = w.heap.size + 1 := by rw [hW]; simp [hW1s]
  have hblk : ∀ k, k < w.heap.size → W.heap[k]? = w.heap[k]? := fun k hk => by rw [hW, setRow_other _ _ _ _ (by omega), setRow_other _ _ _ _ (by omega)]; exact hW1o k hk
  refine ⟨⟨by simp only [List.length_append, List.length_take, List.length_drop, he, hxl]; omega, .inr ⟨w.heap.size, G, r2.toArray, rfl, hB, ?_, by omega, by simpa [maxLen] using hG63, ?_, ?_⟩⟩, ⟨h1, h2, h3, by omega, fun k hk => hblk k (by omega)⟩, ⟨h1, h2, h3, by omega, fun k hk hne => hblk k hk⟩⟩
  ·rw [hW]; exact setRow_heap _ _ r1.toArray _ _ _ (setRow_heap W1 _ ROW _ _ _ hW1h)
  ·have := hins.2; rw [List.size_toArray, this, Nat.mul_one]; exact hcs
  ·have := hins.1; rw [← List.append_assoc, Nat.mul_one]; exact this
 have HF := ħ hfin
 have hGi : ¬ (G = i) := by omega
 have hGim : ¬ (G = i + 1) := by omega
 have hci : ¬ (cap = i) := by omega
 have hcap1 : (cap : Int) < (n : Int) + 1 := by omega
 clear hfin hins hr1 hr2 hdl hmin1 hmin2 hown hxl htk hsz hcs h1x h1e he hv hbox hcell hold hROW hG hRl hRt hW1h hW1o hW1s hr1l
 subst hW1
 go_enter Tryz.func155, Tryz.ntmps155
 have HRZ := ħ hrz
 have HCA := ħ hcpA
 have HCB := ħ hcpB
 have hcpA1 := hcpA (w.alloc (.cells ROW 3)).drew rfl 3 (G - i)
 clear hrz hcpA hcpB hcn hi0 hz0 hzs hzb hszi
 go_wp2_with (at_builtin; refine Lib.wpList_append_run _ rfl _ _ _ _ rfl _ _ rfl rfl _ _ HRZ.out ?_)
 go_region_law (refine step_copy_runR rfl _ _ 25 25 rfl (.slice (some ⟨w.heap.size, (i + 1), none⟩) (n - i) (G - (i + 1))) (.slice (some ⟨g, i, none⟩) (n - i) (cap - i)) (by simp [Act.eval, Act.put]) (by simp [Act.eval, Act.put]) (HCB.out _ (by rfl) 3 (G - (i + 1)) (cap - i)) ?_)
 go_wp2_with fail
 go_ret
 obtain ⟨a1, a2, a3⟩ := HF.out (((w.alloc (.cells ROW 3)).drew.setRow w.heap.size r1.toArray).drew.setRow w.heap.size r2.toArray) rfl rfl rfl rfl
 exact ⟨_, rfl, by first | exact a1 | (simpa [List.append_assoc] using a1), a2, a3, .inr rfl⟩
set_option maxHeartbeats 2000000 in
theorem slices_Insert_Int (w : World) (B : Nat) (v : Value) (n i : Nat) (xs e : List Value) (vb : Nat) (hown : w.ownsRow B 3 1 v n xs) (hi : i ≤ n) (hn : n ≤ 900000000) (hv : Blk w vb 3 e) (hvb : v.ownBlock ≠ some vb) (h1x : ∀ u ∈ xs, u.oneCell' = true) (h1e : ∀ u ∈ e, u.oneCell' = true) (he : e.length = 1) (hB : B ≤ w.heap.size) :
  Calls Tryz.prog 155 #[v, .int .i64 i, .slice (some ⟨vb, 0, none⟩) 1 1] w fun r w' => ∃ v', r = .returned v' ∧ w'.ownsRow B 3 1 v' (n + 1) (xs.take (i) ++ e ++ xs.drop (i)) ∧ Below B w w' ∧ w.grownBy w' v.ownBlock ∧ (v'.ownBlock = v.ownBlock ∨ v'.ownBlock = some w.heap.size) := by
 rcases Nat.lt_or_ge i n with hlt | hge
 ·rcases hown.2 with ⟨_, h0⟩ | ⟨g, cap, cur, rfl, hBg, hg, hnc, hcm, hsz, htk⟩
  ·omega
  ·rcases Nat.lt_or_ge n cap with hroom | hroom
   ·exact slices_Insert_Int_room w B n i xs e vb g cap cur hown hlt hn hv hvb h1x h1e he hB hBg hg hnc hcm (by omega) (by simpa using htk) hroom
   ·exact slices_Insert_Int_grow w B n i xs e vb g cap cur hown hlt hn hv hvb h1x h1e he hB hBg hg hnc hcm (by omega) (by simpa using htk) hroom
 ·exact slices_Insert_Int_end w B v n i xs e vb hown (by omega) hn hv hvb h1x h1e he hB
theorem slices_isNaN_int (x : Int) (w : World) : Calls Tryz.prog 164 #[.int .i64 x] w fun e w' => e = .returned (.bool false) ∧ w = w' := by
 go_enter Tryz.func164, Tryz.ntmps164
 go_wp2
 go_ret
 exact ⟨by simp, rfl⟩
theorem cmp_Less_int (x y : Int) (w : World) : Calls Tryz.prog 163 #[.int .i64 x, .int .i64 y] w fun e w' => e = .returned (.bool (decide (x < y))) ∧ w = w' := by
 go_enter Tryz.func163, Tryz.ntmps163
 go_wp2_with (go_at_call 157; refine (cmp_isNaN_int _ _).mono ?_; rintro e w' ⟨rfl, rfl⟩)
 all_goals (go_ret; refine ⟨ret_bool ?_, rfl⟩; first | rfl | (simp [*]; done))
theorem Rises.lt {l : List Int} (h : Rises l) : ∀ {a b : Nat}, a < b → b < l.length → nth l a < nth l b := by
 intro a b hab hb
 induction b with
 | zero => omega
 | succ b ih =>
  rcases Nat.lt_or_ge a b with h1 | h1
  ·exact Int.lt_trans (ih h1 (by omega)) (h b hb)
  ·obtain rfl : a = b := by omega
   exact h a hb
theorem has_at {l : List Int} {x : Int} {lo : Nat} (h : Rises l) (h1 : ∀ t, t < lo → nth l t < x) (h2 : ∀ t, lo ≤ t → t < l.length → x ≤ nth l t) : memS l x = decide (lo < l.length ∧ nth l lo = x) := by
 unfold memS
 refine decide_eq_decide.2 ⟨fun hm => ?_, fun h => mem_nth.2 ⟨lo, h.1, h.2⟩⟩
 obtain ⟨t, ht, e⟩ := mem_nth.1 hm
 rcases Nat.lt_or_ge t lo with h3 | h3
 ·have := h1 t h3; omega
 ·rcases Nat.lt_or_ge lo t with h4 | h4
  ·have := h2 lo (Nat.le_refl _) (by omega); have := h.lt h4 ht; omega
  ·obtain rfl : t = lo := by omega
   exact ⟨ht, e⟩
def BsF (n : Nat) (l : List Int) (x : Int) (lo hi : Nat) : Prop := (∀ t, t < lo → nth l t < x) ∧ (∀ t, hi ≤ t → t < n → x ≤ nth l t)
set_option maxHeartbeats 1000000 in
theorem slices_BinarySearch (A : Option Addr) (n c : Nat) (l : List Int) (x : Int) (w : World) (hl : IntsR w A n l) (hr : Rises l) (hn : n ≤ 1000000000) :
  Calls Tryz.prog 154 #[.slice A n c, .int .i64 x] w fun e w' => ∃ i : Nat, e = .returned (.tuple #[.int .i64 i, .bool (memS l x)]) ∧ i ≤ n ∧ (∀ t, t < i → nth l t < x) ∧ (∀ t, i ≤ t → t < n → x ≤ nth l t) ∧ Below w.heap.size w w' := by
 have HL := ħ hl
 have HN := ħ hl.1
 have HR := ħ hr
 clear hl hr
 go_enter Tryz.func154, Tryz.ntmps154
 go_wp2_with fail
 go_loopw [7, 8] (fun s7 s8 wr => ∃ lo hi : Nat, s7 = .int .i64 lo ∧ s8 = .int .i64 hi ∧ lo ≤ hi ∧ hi ≤ n ∧ Hid (BsF n l x lo hi) ∧ Below w.heap.size w wr) (fun s7 s8 _ => (intOf s8).toNat - (intOf s7).toNat)
 case atStart => exact ⟨0, n, rfl, rfl, Nat.zero_le _, Nat.le_refl _, ⟨fun t ht => absurd ht (Nat.not_lt_zero _), fun t h1 h2 => by omega⟩, Below.refl _ _⟩
 case round =>
  obtain ⟨lo, hi, rfl, rfl, hlh, hin, I, hbw⟩ := hrel
  by_cases hlt : lo < hi
  ·obtain ⟨b, off, rfl, hb, hc⟩ := (HL.out.up hbw).2.2 (by omega)
   have cm := hc ((lo + hi) / 2) (by omega)
   clear hc
   by_cases hyx : nth l ((lo + hi) / 2) < x
   ·have hd : decide (nth l ((lo + hi) / 2) < x) = true := by simpa using hyx
    have HQ := ħ hyx; clear hyx
    go_wp2_with (first | (go_at_call 163; refine (cmp_Less_int _ _ _).mono ?_; rintro e w' ⟨rfl, rfl⟩) | (go_at_call 164; refine (slices_isNaN_int _ _).mono ?_; rintro e w' ⟨rfl, rfl⟩))
    (first | (go_round; (case rel => (refine ⟨(lo + hi) / 2 + 1, hi, by rw [show ((lo : Int) + (hi : Int)) / 2 + 1 = (((lo + hi) / 2 + 1 : Nat) : Int) by omega], rfl, by omega, hin, ħ ⟨fun t ht => ?_, I.out.2⟩, hbw⟩; have q := HQ.out; rcases Nat.lt_or_ge t ((lo + hi) / 2) with h1 | h1; (have := HR.out.lt h1 (by rw [HN.out]; omega); omega); (obtain rfl : t = (lo + hi) / 2 := by omega); exact q)); (case measure => (simp [intOf] <;> omega))) | (go_roundw; (case rel => (refine ⟨(lo + hi) / 2 + 1, hi, by rw [show ((lo : Int) + (hi : Int)) / 2 + 1 = (((lo + hi) / 2 + 1 : Nat) : Int) by omega], rfl, by omega, hin, ħ ⟨fun t ht => ?_, I.out.2⟩, hbw⟩; have q := HQ.out; rcases Nat.lt_or_ge t ((lo + hi) / 2) with h1 | h1; (have := HR.out.lt h1 (by rw [HN.out]; omega); omega); (obtain rfl : t = (lo + hi) / 2 := by omega); exact q)); (case measure => (simp [intOf] <;> omega))) | (refine ⟨?_, by simp [intOf] <;> omega⟩; (repeat apply Exists.intro); refine ⟨?rel, ?fr⟩; (case fr => ((repeat' apply And.intro) <;> rfl)); (case rel => (refine ⟨(lo + hi) / 2 + 1, hi, by rw [show ((lo : Int) + (hi : Int)) / 2 + 1 = (((lo + hi) / 2 + 1 : Nat) : Int) by omega], rfl, by omega, hin, ħ ⟨fun t ht => ?_, I.out.2⟩, hbw⟩; have q := HQ.out; rcases Nat.lt_or_ge t ((lo + hi) / 2) with h1 | h1; (have := HR.out.lt h1 (by rw [HN.out]; omega); omega); (obtain rfl : t = (lo + hi) / 2 := by omega); exact q))))
   ·have hd : decide (nth l ((lo + hi) / 2) < x) = false := by simpa using hyx
    have HQ := ħ hyx; clear hyx
    go_wp2_with (first | (go_at_call 163; refine (cmp_Less_int _ _ _).mono ?_; rintro e w' ⟨rfl, rfl⟩) | (go_at_call 164; refine (slices_isNaN_int _ _).mono ?_; rintro e w' ⟨rfl, rfl⟩))
    (first | (go_round; (case rel => (refine ⟨lo, (lo + hi) / 2, rfl, by rw [show ((lo : Int) + (hi : Int)) / 2 = (((lo + hi) / 2 : Nat) : Int) by omega], by omega, by omega, ħ ⟨I.out.1, fun t ht htn => ?_⟩, hbw⟩; have q := HQ.out; rcases Nat.lt_or_ge ((lo + hi) / 2) t with h1 | h1; (have := HR.out.lt h1 (by rw [HN.out]; omega); omega); (obtain rfl : t = (lo + hi) / 2 := by omega); omega)); (case measure => (simp [intOf] <;> omega))) | (go_roundw; (case rel => (refine ⟨lo, (lo + hi) / 2, rfl, by rw [show ((lo : Int) + (hi : Int)) / 2 = (((lo + hi) / 2 : Nat) : Int) by omega], by omega, by omega, ħ ⟨I.out.1, fun t ht htn => ?_⟩, hbw⟩; have q := HQ.out; rcases Nat.lt_or_ge ((lo + hi) / 2) t with h1 | h1; (have := HR.out.lt h1 (by rw [HN.out]; omega); omega); (obtain rfl : t = (lo + hi) / 2 := by omega); omega)); (case measure => (simp [intOf] <;> omega))) | (refine ⟨?_, by simp [intOf] <;> omega⟩; (repeat apply Exists.intro); refine ⟨?rel, ?fr⟩; (case fr => ((repeat' apply And.intro) <;> rfl)); (case rel => (refine ⟨lo, (lo + hi) / 2, rfl, by rw [show ((lo : Int) + (hi : Int)) / 2 = (((lo + hi) / 2 : Nat) : Int) by omega], by omega, by omega, ħ ⟨I.out.1, fun t ht htn => ?_⟩, hbw⟩; have q := HQ.out; rcases Nat.lt_or_ge ((lo + hi) / 2) t with h1 | h1; (have := HR.out.lt h1 (by rw [HN.out]; omega); omega); (obtain rfl : t = (lo + hi) / 2 := by omega); omega))))
  ·obtain rfl : hi = lo := by omega
   have he := has_at HR.out I.out.1 (fun t h1 h2 => I.out.2 t h1 (by rw [HN.out] at h2; exact h2))
   rw [HN.out] at he
   by_cases hln : hi < n
   ·obtain ⟨b, off, rfl, hb, hc⟩ := (HL.out.up hbw).2.2 (by omega)
    have cm := hc hi hln
    clear hc
    by_cases hyx : nth l hi = x
    ·have hh : memS l x = true := by rw [he]; simp [hln, hyx]
     have HH := ħ hh
     have hd : (nth l hi == x) = true := by simpa using hyx
     clear he hh hyx
     go_wp2_with (first | (go_at_call 163; refine (cmp_Less_int _ _ _).mono ?_; rintro e w' ⟨rfl, rfl⟩) | (go_at_call 164; refine (slices_isNaN_int _ _).mono ?_; rintro e w' ⟨rfl, rfl⟩))
     go_ret2
     exact ⟨_, by rw [HH.out]; rfl, hin, I.out.1, I.out.2, hbw⟩
    ·have hh : memS l x = false := by rw [he]; simp [hyx]
     have HH := ħ hh
     have hd : (nth l hi == x) = false := by simpa using hyx
     clear he hh hyx
     go_wp2_with (first | (go_at_call 163; refine (cmp_Less_int _ _ _).mono ?_; rintro e w' ⟨rfl, rfl⟩) | (go_at_call 164; refine (slices_isNaN_int _ _).mono ?_; rintro e w' ⟨rfl, rfl⟩))
     go_ret2
     exact ⟨_, by rw [HH.out]; rfl, hin, I.out.1, I.out.2, hbw⟩
   ·have hh : memS l x = false := by rw [he]; simp [hln]
    have HH := ħ hh
    clear he hh
    go_wp2_with fail
    go_ret2
    exact ⟨_, by rw [HH.out]; rfl, hin, I.out.1, I.out.2, hbw⟩

open Go.RowKit

theorem dcells_same {α β : Type} [Inhabited α] [Inhabited β] (T : DeepT α β) {l l' : List α} {ps : List β} (h : ps.length = l.length) (hl : l'.length = l.length) (he : ∀ j, j < l.length → T.enc (l'.getD j default) (ps.getD j default) = T.enc (l.getD j default) (ps.getD j default)) : dcells T l' ps = dcells T l ps := by
 unfold dcells
 congr 1
 apply List.ext_getElem
 ·simp [hl]
 ·intro i h1 h2
  rw [List.getElem_zipWith, List.getElem_zipWith]
  have hi : i < l.length := by rw [List.length_zipWith] at h2; omega
  have e := he i hi
  simpa [List.getD_eq_getElem?_getD, hi, hl, h, List.getElem?_eq_getElem, show i < l'.length by omega, show i < ps.length by omega] using e
theorem set_same {α : Type} {xs : List α} {j : Nat} {u : α} (h : xs[j]? = some u) : xs.set j u = xs := by
 obtain ⟨hj, e⟩ := List.getElem?_eq_some_iff.1 h
 rw [← e, List.set_getElem_self]
/-- The row of waits whose i-th gets other acknowledgements. -/
theorem waits_put {w : World} {B g c i : Nat} {ps : List Value} {l : List WaitD} {p : Value} {ak : List Int} (h : OwnT dWait w B (.slice (some ⟨g, 0, none⟩) l.length c) ps l) (hi : i < l.length) (hin : OwnI w B p ak) :
  OwnT dWait ((w.setCell ⟨g, i * 2, none⟩ (.int .i64 (wth l i).di)).setCell ⟨g, i * 2 + 1, none⟩ p) B (.slice (some ⟨g, 0, none⟩) l.length c) (ps.set i p) (l.set i ⟨(wth l i).di, ak⟩) := by
 obtain ⟨h1, h2, h3⟩ := h
 have a1 := own_put (u := .int .i64 (wth l i).di) h1 (j := i * 2) (by show i * 2 < l.length * 2; omega)
 have e0 : (dcells dWait l ps)[i * 2]? = some (.int .i64 (wth l i).di) := by
  exact dcells_at dWait h2 (j := i) (r := 0) hi (by decide)
 rw [set_same e0] at a1
 have a2 := own_put (u := p) a1 (j := i * 2 + 1) (by show i * 2 + 1 < l.length * 2; omega)
 have e1 : (dcells dWait l ps).set (i * 2 + 1) p = dcells dWait l (ps.set i p) := dcells_set dWait h2 hi (r := 1) (by decide) rfl
 have e2 : dcells dWait (l.set i ⟨(wth l i).di, ak⟩) (ps.set i p) = dcells dWait l (ps.set i p) := dcells_same dWait (by simp [h2]) (by simp) (fun j hj => by
  by_cases hji : j = i
  ·subst hji
   have : (l.set j ⟨(wth l j).di, ak⟩).getD j default = ⟨(wth l j).di, ak⟩ := by simp [hj]
   rw [this]; rfl
  ·have : (l.set i ⟨(wth l i).di, ak⟩).getD j default = l.getD j default := by
    simp only [List.getD_eq_getElem?_getD]; rw [List.getElem?_set, if_neg (fun e => hji e.symm)]
   rw [this])
 refine ⟨by rw [e2, ← e1, List.length_set]; exact a2, by simp [h2], fun j hj => ?_⟩
 rw [List.length_set] at hj
 have far : ∀ {q : Value} {m : List Int}, OwnI w B q m → OwnI ((w.setCell ⟨g, i * 2, none⟩ (.int .i64 (wth l i).di)).setCell ⟨g, i * 2 + 1, none⟩ p) B q m := fun hq => own_setT (own_setT hq h1 (by decide) rfl) a1 (by decide) rfl
 by_cases hji : j = i
 ·subst hji
  have g1 : (l.set j ⟨(wth l j).di, ak⟩).getD j default = ⟨(wth l j).di, ak⟩ := by simp [hj]
  have g2 : (ps.set j p).getD j default = p := by simp [show j < ps.length by omega]
  rw [g1, g2]
  exact far hin
 ·have g1 : (l.set i ⟨(wth l i).di, ak⟩).getD j default = l.getD j default := by
   simp only [List.getD_eq_getElem?_getD]; rw [List.getElem?_set, if_neg (fun e => hji e.symm)]
  have g2 : (ps.set i p).getD j default = ps.getD j default := by
   simp only [List.getD_eq_getElem?_getD]; rw [List.getElem?_set, if_neg (fun e => hji e.symm)]
  rw [g1, g2]
  exact far (h3 j hj)
open Go.RowKit

theorem khasW_lt7 {l : List WaitD} {key : Int} {lo : Nat} (hlo : kposW l key = lo) (h : khasW l key = true) : lo < l.length ∧ (wth l lo).di = key := by
 subst hlo; exact dec_iff.1 h
set_option maxHeartbeats 4000000 in
theorem step_ack_no (gs : Nat) (c0 c1 c2 c3 c4 c5 c7 c8 c9 : Value) (tA : Option Addr) (tn tc : Nat) (wa : List WaitD) (who d : Int) (w : World) (hg : Blk w gs 142 [c0, c1, c2, c3, c4, c5, .slice tA tn tc, c7, c8, c9]) (hW : WaitsR w tA tn wa) (hP : SortedW wa) (hbig : BigW wa) (hris : ∀ x ∈ wa, Rises x.ak) (hak : ∀ x ∈ wa, x.ak.length ≤ 1000000) (hn : khasW wa d = false ∨ khasW wa d = true ∧ memS (wth wa (kposW wa d)).ak who = true) :
  Calls Tryz.prog 134 #[.pointer (some ⟨gs, 0, none⟩), .int .i64 who, .int .i64 d] w fun e w' => e = .returned (.tuple #[]) ∧ Below w.heap.size w w' := by
 obtain ⟨lo, hlo⟩ : ∃ lo, kposW wa d = lo := ⟨_, rfl⟩
 rw [hlo] at hn
 have HW := ħ hW
 have HP := ħ hP
 have HLO := ħ hlo
 have HRS := ħ hris
 have HAK := ħ hak
 have htn : tn ≤ 800000000 := by rw [← hW.1]; exact hbig.1
 have hgl := hg.lt
 have g6 := hg.box.2 6 _ rfl
 clear hg hW hP hlo hris hbig hak
 rcases hn with hy | ⟨hy, hm⟩
 ·have HY := ħ hy
  clear hy
  go_enter Tryz.func134, Tryz.ntmps134
  go_wp2_with (go_at_call 120; refine (worker_wait tA tn tc wa d lo false _ HW.out HP.out (by omega) HLO.out HY.out).mono ?_; rintro e w1 ⟨rfl, hb1⟩)
  exact bodyPost_ret (v := .tuple #[]) (by simp [results, Tryz.results134, go_sem]) rfl ⟨rfl, hb1⟩
 ·obtain ⟨hlt, _⟩ := khasW_lt7 HLO.out hy
  have HY := ħ hy
  have HM := ħ hm
  have hltn : lo < tn := by rw [← HW.out.1]; exact hlt
  obtain ⟨b, off, e1, hb, hc⟩ := HW.out.2.2 (by omega)
  obtain ⟨nA, nn, nc, ⟨f0, f1⟩, hNT⟩ := hc lo hltn
  have HNT := ħ hNT
  have HF := ħ (And.intro f0 f1)
  have hrs := HRS.out _ (getD_mem hlt)
  have HR := ħ hrs
  have hnn : nn ≤ 1000000 := by rw [← hNT.1]; exact HAK.out _ (getD_mem hlt)
  subst e1
  clear hy hm hc f0 f1 hNT hrs hlt
  go_enter Tryz.func134, Tryz.ntmps134
  go_upto_region 2 with (go_at_call 120; refine (worker_wait (some ⟨b, off, none⟩) tn tc wa d lo true _ HW.out HP.out (by omega) HLO.out HY.out).mono ?_; rintro e w1 ⟨rfl, hb1⟩)
  have q0 := (hb1.cell (p := ⟨b, off + lo * 2, none⟩) hb).trans HF.out.1
  have q1 := (hb1.cell (p := ⟨b, off + lo * 2 + 1, none⟩) hb).trans HF.out.2
  have g61 := (hb1.cell (p := ⟨gs, 6, none⟩) hgl).trans g6
  have hgl1 : gs < w1.heap.size := Nat.lt_of_lt_of_le hgl hb1.size
  have hbl : b < w1.heap.size := Nat.lt_of_lt_of_le hb hb1.size
  clear g6 hgl
  go_wp2_with (go_at_call 154; refine (slices_BinarySearch nA nn nc (wth wa lo).ak who _ (HNT.out.up (bel_trans hb1 (by (repeat (first | (with_reducible exact Below.refl _ _) | (with_reducible assumption) | (with_reducible apply bel_alloc) | (with_reducible apply bel_drew) | (with_reducible apply bel_drewN) | (with_reducible refine bel_trans ?_ (by with_reducible assumption)) | (with_reducible refine bel_trans ?_ (HF.out _)) | (with_reducible refine bel_set ?_ (by simp) _) | (with_reducible refine bel_set ?_ (by simp; omega) _) | (with_reducible refine bel_set ?_ (by omega) _)))))) HR.out (by omega)).mono ?_; rintro e w2 ⟨k, rfl, -, -, -, hb2⟩; rw [HM.out])
  go_end0
  exact ⟨rfl, bel_trans hb1 (bel_trans (by (repeat (first | (with_reducible exact Below.refl _ _) | (with_reducible assumption) | (with_reducible apply bel_alloc) | (with_reducible apply bel_drew) | (with_reducible apply bel_drewN) | (with_reducible refine bel_trans ?_ (by with_reducible assumption)) | (with_reducible refine bel_trans ?_ (HF.out _)) | (with_reducible refine bel_set ?_ (by simp) _) | (with_reducible refine bel_set ?_ (by simp; omega) _) | (with_reducible refine bel_set ?_ (by omega) _)))) hb2)⟩
open Go.RowKit

/-- Where x stands, or would, in a rising list. -/
def posI (l : List Int) (x : Int) : Nat := cnt (fun y => decide (y < x)) l
theorem posI_le (l : List Int) (x : Int) : posI l x ≤ l.length := cnt_le _ _
theorem posI_eq {l : List Int} {x : Int} {i : Nat} (hi : i ≤ l.length) (h1 : ∀ j, j < i → nth l j < x) (h2 : i < l.length → x ≤ nth l i) : posI l x = i :=
 cnt_eq _ l i hi (fun t ht => by have := h1 t ht; simpa [nth] using this) (fun ht => by have := h2 ht; simpa [nth] using this)
/-- One more, if it is not there. -/
def ackI (l : List Int) (x : Int) : List Int := if memS l x = true then l else insAt l (posI l x) x
theorem ackI_len (l : List Int) (x : Int) : (ackI l x).length ≤ l.length + 1 := by
 unfold ackI
 split
 ·omega
 ·rw [insAt_len (posI_le l x)]; omega
/-- The waits when a node acknowledges a digest. -/
noncomputable def ackW (wa : List WaitD) (who d : Int) : List WaitD := if khasW wa d = true then wa.set (kposW wa d) ⟨d, ackI (wth wa (kposW wa d)).ak who⟩ else wa
theorem wth_set {l : List WaitD} {i j : Nat} {x : WaitD} (hi : i < l.length) : wth (l.set i x) j = if j = i then x else wth l j := by
 unfold wth
 simp only [List.getD_eq_getElem?_getD]
 by_cases h : j = i
 ·subst h; rw [if_pos rfl, List.getElem?_set, if_pos rfl, if_pos hi]; rfl
 ·rw [if_neg h, List.getElem?_set, if_neg (fun e => h e.symm)]
theorem ackW_no {wa : List WaitD} {who d : Int} (h : khasW wa d = false) : ackW wa who d = wa := by
 unfold ackW; rw [if_neg (by rw [h]; simp)]
theorem ackW_yes {wa : List WaitD} {who d : Int} {lo : Nat} (hlo : kposW wa d = lo) (h : khasW wa d = true) : ackW wa who d = wa.set lo ⟨(wth wa lo).di, ackI (wth wa lo).ak who⟩ := by
 obtain ⟨h1, h2⟩ := khasW_lt7 hlo h
 unfold ackW; rw [if_pos h, hlo, h2]
theorem ackW_same {wa : List WaitD} {who d : Int} {lo : Nat} (hlo : kposW wa d = lo) (h : khasW wa d = true) (hm : memS (wth wa lo).ak who = true) : ackW wa who d = wa := by
 obtain ⟨h1, h2⟩ := khasW_lt7 hlo h
 rw [ackW_yes hlo h]
 have e : ackI (wth wa lo).ak who = (wth wa lo).ak := by unfold ackI; rw [if_pos hm]
 rw [e]
 apply List.ext_getElem (by simp)
 intro j h3 h4
 rw [List.getElem_set]
 split
 ·rename_i hj; subst hj; simp [wth, h4]
 ·rfl
theorem ackW_len (wa : List WaitD) (who d : Int) : (ackW wa who d).length = wa.length := by
 unfold ackW; split <;> simp
theorem ackW_mem {wa : List WaitD} {who d : Int} {x : WaitD} (h : x ∈ ackW wa who d) : x ∈ wa ∨ ∃ y ∈ wa, x = ⟨y.di, ackI y.ak who⟩ := by
 cases hk : khasW wa d
 ·rw [ackW_no hk] at h; exact .inl h
 ·rw [ackW_yes rfl hk] at h
  rcases List.mem_or_eq_of_mem_set h with h | h
  ·exact .inl h
  ·exact .inr ⟨_, getD_mem (khasW_lt7 rfl hk).1, h⟩
theorem nth_ins {l : List Int} {p : Nat} {x : Int} (hp : p ≤ l.length) (i : Nat) : nth (insAt l p x) i = if i < p then nth l i else if i = p then x else nth l (i - 1) := by
 have hlt : (l.take p).length = p := by rw [List.length_take]; omega
 unfold insAt nth
 simp only [List.getD_eq_getElem?_getD]
 by_cases h1 : i < p
 ·rw [if_pos h1, List.getElem?_append_left (by omega), List.getElem?_take, if_pos h1]
 ·rw [if_neg h1, List.getElem?_append_right (by omega), hlt]
  by_cases h2 : i = p
  ·rw [if_pos h2, h2, Nat.sub_self]; rfl
  ·rw [if_neg h2, show i - p = (i - p - 1) + 1 by omega, List.getElem?_cons_succ, List.getElem?_drop, show p + (i - p - 1) = i - 1 by omega]
theorem posI_low {l : List Int} {x : Int} {i : Nat} (h : i < posI l x) : nth l i < x := by
 have hl : posI l x ≤ l.length := cnt_le _ _
 have hm := cnt_take (fun y => decide (y < x)) l (nth l i) (by
  have e : nth l i = (l.take (posI l x)).getD i default := by
   unfold nth; simp only [List.getD_eq_getElem?_getD, List.getElem?_take, if_pos h]; rfl
  rw [e]; exact getD_mem (by rw [List.length_take]; show i < min (posI l x) _; omega))
 simpa using hm
theorem posI_stop {l : List Int} {x : Int} (h : posI l x < l.length) : x ≤ nth l (posI l x) := by
 have h0 := cnt_stop (fun y => decide (y < x)) l h
 have e : nth l (posI l x) = l.getD (cnt (fun y => decide (y < x)) l) default := rfl
 rw [e]; simpa using h0
theorem ackI_rise {l : List Int} {x n : Int} (h : RisesIn l n) (h1 : 1 ≤ x) (h2 : x ≤ n) : RisesIn (ackI l x) n := by
 unfold ackI
 split
 ·exact h
 ·rename_i hm
  have hp := posI_le l x
  have hne : ∀ i, i < l.length → nth l i ≠ x := fun i hi e => hm (by unfold memS; exact decide_eq_true (mem_nth.2 ⟨i, hi, e⟩))
  have hhi : ∀ i, posI l x ≤ i → i < l.length → x < nth l i := fun i g1 g2 => by
   have a1 := posI_stop (l := l) (x := x) (by omega)
   have a2 := hne i g2
   rcases Nat.lt_or_ge (posI l x) i with g | g
   ·have := h.1 _ _ g g2; omega
   ·have e : posI l x = i := by omega
    rw [e] at a1; omega
  refine ⟨fun i j hij hj => ?_, fun j hj => ?_⟩
  ·rw [insAt_len hp] at hj
   rw [nth_ins hp, nth_ins hp]
   by_cases g1 : i < posI l x
   ·rw [if_pos g1]
    have a1 := posI_low g1
    by_cases g2 : j < posI l x
    ·rw [if_pos g2]; exact h.1 i j hij (by omega)
    ·rw [if_neg g2]
     by_cases g3 : j = posI l x
     ·rw [if_pos g3]; exact a1
     ·rw [if_neg g3]; have := hhi (j - 1) (by omega) (by omega); omega
   ·rw [if_neg g1]
    by_cases g2 : i = posI l x
    ·rw [if_pos g2, if_neg (by omega), if_neg (by omega)]
     exact hhi (j - 1) (by omega) (by omega)
    ·rw [if_neg g2, if_neg (by omega), if_neg (by omega)]
     exact h.1 (i - 1) (j - 1) (by omega) (by omega)
  ·rw [insAt_len hp] at hj
   rw [nth_ins hp]
   by_cases g1 : j < posI l x
   ·rw [if_pos g1]; exact h.2 j (by omega)
   ·rw [if_neg g1]
    by_cases g2 : j = posI l x
    ·rw [if_pos g2]; exact ⟨h1, h2⟩
    ·rw [if_neg g2]; exact h.2 (j - 1) (by omega)
theorem ackW_rise {wa : List WaitD} {who d n : Int} (h : ∀ x ∈ wa, RisesIn x.ak n) (h1 : 1 ≤ who) (h2 : who ≤ n) : ∀ x ∈ ackW wa who d, RisesIn x.ak n := fun x hx => by
 rcases ackW_mem hx with hx | ⟨y, hy, rfl⟩
 ·exact h x hx
 ·exact ackI_rise (h y hy) h1 h2
theorem ackW_big {wa : List WaitD} {who d : Int} (h : BigW wa) (hl : ∀ x ∈ wa, x.ak.length ≤ 1000000) : BigW (ackW wa who d) := ⟨by rw [ackW_len]; exact h.1, fun x hx => by
 rcases ackW_mem hx with hx | ⟨y, hy, rfl⟩
 ·exact h.2 x hx
 ·have := ackI_len y.ak who; have := hl y hy; show (ackI y.ak who).length ≤ _; omega⟩
/-- What a worker is that is told that a batch is kept. -/
noncomputable def toldD (D : WorkD) (who d : Int) : WorkD := { D with wa := keptW D.nodes (ackW D.wa who d), re := keptR D.nodes D.re (ackW D.wa who d) }
open Go.RowKit

theorem insAt_map {l : List Int} {k : Nat} {x : Int} : (l.map (Value.int .i64)).take k ++ [Value.int .i64 x] ++ (l.map (Value.int .i64)).drop k = (insAt l k x).map (Value.int .i64) := by
 unfold insAt; simp [List.map_take, List.map_drop]
set_option maxHeartbeats 8000000 in
theorem step_ack_yes (gs B : Nat) (c0 c1 c2 c3 c4 c5 c7 c8 c9 : Value) (tA : Option Addr) (tn tc : Nat) (wa : List WaitD) (who d : Int) (w : World) (hg : Blk w gs 142 [c0, c1, c2, c3, c4, c5, .slice tA tn tc, c7, c8, c9]) (hB : B ≤ w.heap.size) (hT : OwnWs w B (.slice tA tn tc) wa) (hP : SortedW wa) (hbig : BigW wa) (hris : ∀ x ∈ wa, Rises x.ak) (hak : ∀ x ∈ wa, x.ak.length ≤ 1000000) (lo : Nat) (hlo : kposW wa d = lo) (hy : khasW wa d = true) (hm : memS (wth wa lo).ak who = false) :
  Calls Tryz.prog 134 #[.pointer (some ⟨gs, 0, none⟩), .int .i64 who, .int .i64 d] w fun e w' => ∃ A n c, e = .returned (.tuple #[]) ∧ But w.heap.size gs w w' ∧ Blk w' gs 142 [c0, c1, c2, c3, c4, c5, .slice A n c, c7, c8, c9] ∧ OwnWs w' B (.slice A n c) (ackW wa who d) := by
 have hT0 := hT
 obtain ⟨ps, hTT⟩ := hT
 obtain ⟨A', c', e', hW, -, -⟩ := hT0.waits hbig
 injection e' with e1 e2 e3
 rw [← e1, ← e2] at hW
 have HTN : Hid (wa.length = tn) := ħ e2.symm
 clear e1 e2 e3 hT0
 have HAW := ħ (ackW_yes (who := who) hlo hy)
 obtain ⟨hlw, -⟩ := khasW_lt7 hlo hy
 have HTT := ħ hTT
 have HTT2 := ħ hTT.2.1
 have HW := ħ hW
 have HP := ħ hP
 have HLO := ħ hlo
 have HY := ħ hy
 have HM := ħ hm
 have HRS := ħ (hris _ (getD_mem hlw))
 have HG := ħ hg
 have htn : tn ≤ 800000000 := by rw [← hW.1]; exact hbig.1
 have hgl := hg.lt
 have g6 := hg.box.2 6 _ rfl
 have hlt0 : 0 < tn := by rw [← HTN.out]; omega
 have hltn : lo < tn := by rw [← HTN.out]; exact hlw
 obtain ⟨b, off, e1, hb, hc⟩ := hW.2.2 (by omega)
 obtain ⟨nA, nn, nc, ⟨f0, f1⟩, hNT⟩ := hc lo hltn
 have HNT := ħ hNT
 have HF := ħ (And.intro f0 f1)
 have hnn : nn ≤ 1000000 := by rw [← hNT.1]; exact hak _ (getD_mem hlw)
 have HNN : Hid ((wth wa lo).ak.length = nn) := ħ hNT.1
 have HRV : Hid (RowV w tA tn 2 (dcells dWait wa ps)) := ħ (by
  obtain ⟨A2, c2, e2, hrv, _⟩ := own_row hTT.1 (by rw [HTN.out]; omega)
  injection e2 with e3 e4 e5
  rw [HTN.out] at hrv
  rw [e3]; exact hrv)
 have hHL : Hid (ackI (wth wa lo).ak who = insAt (wth wa lo).ak (posI (wth wa lo).ak who) who) := ħ (by unfold ackI; rw [if_neg (by rw [hm]; simp)])
 subst e1
 clear hg hW hP hlo hy hm hc f0 f1 hNT hris hak hTT hbig
 go_enter Tryz.func134, Tryz.ntmps134
 go_upto_region 2 with (go_at_call 120; refine (worker_wait (some ⟨b, off, none⟩) tn tc wa d lo true _ HW.out HP.out (by omega) HLO.out HY.out).mono ?_; rintro e w1 ⟨rfl, hb1⟩)
 have q0 := (hb1.cell (p := ⟨b, off + lo * 2, none⟩) hb).trans HF.out.1
 have q1 := (hb1.cell (p := ⟨b, off + lo * 2 + 1, none⟩) hb).trans HF.out.2
 have g61 := (hb1.cell (p := ⟨gs, 6, none⟩) hgl).trans g6
 have hgl1 : gs < w1.heap.size := Nat.lt_of_lt_of_le hgl hb1.size
 have hbl1 : b < w1.heap.size := Nat.lt_of_lt_of_le hb hb1.size
 go_upto_region 3 with fail
 refine wp_world (fun W hW => ?_)
 obtain ⟨gx, hgx⟩ : ∃ g, g = w1.heap.size := ⟨_, rfl⟩
 have HBX : Hid (Blk W gx 56 [.int .i64 (wth wa lo).di, .slice nA nn nc]) := ħ (by rw [hW, hgx]; exact Blk.new w1 56 [.int .i64 (wth wa lo).di, .slice nA nn nc])
 have hb1W : Below w1.heap.size w1 W := by rw [hW]; exact bel_alloc (Below.refl _ _)
 rw [← hgx]
 have hgxw : w.heap.size ≤ gx := by rw [hgx]; exact hb1.size
 have hgsx : gs < gx := by omega
 have hbW := bel_trans hb1 hb1W
 have HGW := ħ (HG.out.up hbW)
 have HNW := ħ (HNT.out.up hbW)
 clear hW hgx hb1W hb1 q0 q1 g61 g6 hbl1 hgl1
 have x1 := HBX.out.box.2 1 _ rfl
 have xl := HBX.out.lt
 go_upto_region 5 with (go_at_call 154; refine (slices_BinarySearch nA nn nc (wth wa lo).ak who _ HNW.out HRS.out (by omega)).mono ?_; rintro e w2 ⟨k, rfl, hkn, hk1, hk2, hb2⟩; rw [HM.out])
 clear x1 xl
 have HIN : Hid (((wth wa lo).ak.map (Value.int .i64)).take k ++ [Value.int .i64 who] ++ ((wth wa lo).ak.map (Value.int .i64)).drop k = (ackI (wth wa lo).ak who).map (Value.int .i64)) := ħ (by
  rw [insAt_map, hHL.out, posI_eq (i := k) (by rw [HNN.out]; exact hkn) hk1 (fun h => hk2 k (Nat.le_refl _) (by rw [← HNN.out]; exact h))])
 have HLA : Hid ((ackI (wth wa lo).ak who).length = nn + 1) := ħ (by rw [hHL.out, insAt_len (posI_le _ _), HNN.out])
 have HB2 := ħ (HBX.out.up hb2)
 have HG2 := ħ (HGW.out.up hb2)
 have HNT2 := ħ (HNW.out.up hb2)
 have hb2' := bel_trans hbW hb2
 clear hb2 hbW hk1 hk2 HBX HGW HNW
 have hb2 := hb2'
 clear hb2'
 have x1 := HB2.out.box.2 1 _ rfl
 have xl := HB2.out.lt
 go_upto_region 6 with (first | (go_at_call 125; refine (cloneO_Ints nA nn nc (wth wa lo).ak _ HNT2.out (by omega)).mono ?_; rintro e wl ⟨vl, rfl, hol, hbl⟩; obtain ⟨Al, cl, rfl, -⟩ := hol.ints (by rw [HNN.out]; omega); rw [HNN.out] at hol ⊢; have hkB9 := Blk.new wl 3 [.int .i64 who]; have hbB : Below wl.heap.size wl (wl.alloc (.cells #[.int .i64 who] 3)) := bel_alloc (Below.refl _ _); have hown9 : World.ownsRow (wl.alloc (.cells #[.int .i64 who] 3)) w2.heap.size 3 1 (.slice Al nn cl) nn ((wth wa lo).ak.map (Value.int .i64)) := (by have h8 : OwnI _ w2.heap.size (.slice Al nn cl) (wth wa lo).ak := hol.up hbB; unfold OwnI at h8; rw [HNN.out] at h8; exact h8); have hfar : ¬ (Value.slice Al nn cl).ownBlock = some wl.heap.size := fun hq => absurd (own_lt (show World.ownsRow _ _ 3 1 _ _ _ from hol) wl.heap.size hq).2 (Nat.lt_irrefl _)) | (go_at_call 155; refine (slices_Insert_Int _ w2.heap.size (.slice Al nn cl) nn k ((wth wa lo).ak.map (Value.int .i64)) [.int .i64 who] wl.heap.size hown9 hkn (by omega) hkB9 hfar (fun u hu => (by simp only [List.mem_map] at hu; obtain ⟨y, _, rfl⟩ := hu; rfl)) (by simp [Value.oneCell']) rfl (Nat.le_trans hbl.size hbB.size)).mono ?_; rintro e wi ⟨vi, rfl, howi, hbI, -, -⟩; rw [HIN.out] at howi; obtain ⟨Ai, ci, rfl, -⟩ := own_row howi (by omega); have hoI : OwnI wi w2.heap.size (.slice Ai (nn + 1) ci) (ackI (wth wa lo).ak who) := (by unfold OwnI; rw [HLA.out]; exact howi); have hbI2 : Below w2.heap.size w2 wi := (bel_trans hbl hbB).trans hbI; have hB0 := HB2.out.up hbI2; have qf := hB0.frozen; have ql := hB0.lt; have q9 := hB0.box.2 1 _ rfl))
 clear qf ql q9 x1 xl
 have hB1 := hB0.set_ 1 (.slice Ai (nn + 1) ci)
 have htY := TKeep.setg (o := 1) (u := .slice Ai (nn + 1) ci) hB0
 have hGI := (HG2.out.up hbI2).tk htY (by decide)
 have hOI : OwnI _ w2.heap.size (.slice Ai (nn + 1) ci) (ackI (wth wa lo).ak who) := own_tk (show World.ownsRow _ _ 3 1 _ _ _ from hoI) htY (by decide)
 have hbY : Below w.heap.size w (wi.setCell ⟨gx, 1, none⟩ (.slice Ai (nn + 1) ci)) := (hb2.trans (hbI2.mono hb2.size)).setCell (p := ⟨gx, 1, none⟩) hgxw _
 obtain ⟨Y, hY⟩ : ∃ Y, Y = wi.setCell ⟨gx, 1, none⟩ (.slice Ai (nn + 1) ci) := ⟨_, rfl⟩
 rw [← hY] at hB1 hGI hOI hbY ⊢
 have HBY := ħ hB1
 have HGY := ħ hGI
 have HOY := ħ (hOI.mono (B' := w.heap.size) hb2.size)
 have HBWY := ħ hbY
 clear hY hB1 hGI hOI hbY htY hB0 hoI howi hown9 hkB9 hol hbl hbB hbI hbI2 HB2 HG2 HNT2 hb2 hfar
 have y9 := HGY.out.box.2 6 _ rfl
 have yl := HGY.out.lt
 go_upto_region 7 with (go_at_call 122; refine (slices_Clone_Wait (some ⟨b, off, none⟩) tn tc (dcells dWait wa ps) _ (HRV.out.up HBWY.out) HTT.out.one (by omega)).mono ?_; rintro e wc ⟨vc, rfl, hoc, hbc⟩; obtain ⟨Ac, cc, rfl, -⟩ := own_row hoc (by omega); obtain ⟨gc, ec, hgc1, hgc2⟩ := own_nz hoc hlt0; subst ec; have hG6 := HGY.out.up hbc; have qf := hG6.frozen; have ql := hG6.lt; have q9 := hG6.box.2 6 _ rfl)
 clear qf ql q9 y9 yl
 have htV := TKeep.setg (o := 6) (u := .slice (some ⟨gc, 0, none⟩) tn cc) hG6
 have hGV := hG6.set_ 6 (.slice (some ⟨gc, 0, none⟩) tn cc)
 have hBV := (HBY.out.up hbc).tk htV (by decide)
 have hOV : OwnI _ w.heap.size (.slice Ai (nn + 1) ci) (ackI (wth wa lo).ak who) := own_tk (show World.ownsRow _ _ 3 1 _ _ _ from HOY.out.up hbc) htV (by decide)
 have hgcY : Y.heap.size ≤ gc := hgc1
 have hTV : OwnT dWait (wc.setCell ⟨gs, 6, none⟩ (.slice (some ⟨gc, 0, none⟩) tn cc)) B (.slice (some ⟨gc, 0, none⟩) tn cc) ps wa := ⟨by rw [HTN.out]; exact own_mono (own_tk hoc htV (by decide)) (by exact Nat.le_trans hB HBWY.out.size), HTT.out.2.1, fun j hj => own_tk (show World.ownsRow _ _ 3 1 _ _ _ from (HTT.out.2.2 j hj).up (bel_trans HBWY.out hbc)) htV (by decide)⟩
 have hbtV : But w.heap.size gs w (wc.setCell ⟨gs, 6, none⟩ (.slice (some ⟨gc, 0, none⟩) tn cc)) := (But.of_below (HBWY.out.trans (hbc.mono HBWY.out.size))).setg
 obtain ⟨V, hV⟩ : ∃ V, V = wc.setCell ⟨gs, 6, none⟩ (.slice (some ⟨gc, 0, none⟩) tn cc) := ⟨_, rfl⟩
 rw [← hV] at hGV hBV hOV hTV hbtV ⊢
 have hYg := HBY.out.lt
 have hgcx : gc ≠ gx := by omega
 have hYs := HGY.out.lt
 have hgcs : gc ≠ gs := by omega
 have hgcw : w.heap.size ≤ gc := by have := HBWY.out.size; omega
 have HGV := ħ hGV
 have HBV := ħ hBV
 have HOV := ħ hOV
 have HTV := ħ hTV
 have HBTV := ħ hbtV
 clear hV hGV hBV hOV hTV hbtV htV hG6 hoc hbc HGY HBY HOY hYg hYs hgcY hgc1 hgc2 HTT HRV
 obtain ⟨S, hSd⟩ : ∃ S : World → Prop, S = fun Q => Q.cell? ⟨gs, 6, none⟩ = some (.slice (some ⟨gc, 0, none⟩) tn cc) ∧ Q.rangeAt gx 0 [.int .i64 (wth wa lo).di, .slice Ai (nn + 1) ci] := ⟨_, rfl⟩
 have hS6 : ∀ Q, S Q → Q.cell? ⟨gs, 6, none⟩ = some (.slice (some ⟨gc, 0, none⟩) tn cc) := fun Q h => by rw [hSd] at h; exact h.1
 have hSx : ∀ Q, S Q → Q.rangeAt gx 0 [.int .i64 (wth wa lo).di, .slice Ai (nn + 1) ci] := fun Q h => by rw [hSd] at h; exact h.2
 have hS9 : ∀ Q, S Q → ∀ a b, S ((Q.setCell ⟨gc, lo * 2, none⟩ a).setCell ⟨gc, lo * 2 + 1, none⟩ b) := fun Q h a b => by
  rw [hSd] at h ⊢
  have key : ∀ g o v, gc ≠ g → Q.cell? ⟨g, o, none⟩ = some v → ((Q.setCell ⟨gc, lo * 2, none⟩ a).setCell ⟨gc, lo * 2 + 1, none⟩ b).cell? ⟨g, o, none⟩ = some v := fun g o v hne hv => (World.cell?_setCell_other _ _ _ _ (by intro e; simp only [Addr.mk.injEq] at e; omega)).trans ((World.cell?_setCell_other _ _ _ _ (by intro e; simp only [Addr.mk.injEq] at e; omega)).trans hv)
  exact ⟨key _ _ _ hgcs h.1, fun j v hv => key _ _ _ hgcx (h.2 j v hv)⟩
 have hS0 : S V.drew := by
  rw [hSd]
  exact ⟨(HGV.out.up (bel_drew (Below.refl _ _))).box.2 6 _ rfl, (HBV.out.up (bel_drew (Below.refl _ _))).rng⟩
 clear hSd
 refine wp_region_held_drew (S := S) (by kernel_rfl) hS0 (fun hHeld => ?_)
 have hbd7 : Below V.heap.size V V.drew := bel_drew (Below.refl _ _)
 have hZ7 := hHeld
 clear hS0
 generalize V.drew = Z7 at *
 (refine wpAnyH_tk 0 (some 58) (v := ?_) rfl rfl ?_ ?_; rotate_left; (focus (intro wq hSw; clear hSw; go_simp; all_goals (with_reducible rfl))); simp only [lz])
 (refine wpAnyH_tk 1 (some 59) (v := ?_) rfl rfl ?_ ?_; rotate_left; (focus (intro wq hSw; clear hSw; go_simp; all_goals (with_reducible rfl))); simp only [lz])
 (refine wpAnyH_tk 2 (some 60) (v := ?_) rfl rfl ?_ ?_; rotate_left; (focus (intro wq hSw; clear hSw; go_simp; all_goals (with_reducible rfl))); simp only [lz])
 (refine wpAnyH_tk 3 (some 61) (v := ?_) rfl rfl ?_ ?_; rotate_left; (focus (intro wq hSw; clear hSw; go_simp; all_goals (with_reducible rfl))); simp only [lz])
 (refine wpAnyH_tk 4 (some 62) (v := ?_) rfl rfl ?_ ?_; rotate_left; (focus (intro wq hSw; have q1 := hS6 wq hSw; clear hSw; go_simp; all_goals (with_reducible rfl))); simp only [lz])
 (refine wpAnyH_tk 5 (some 63) (v := ?_) rfl rfl ?_ ?_; rotate_left; (focus (intro wq hSw; clear hSw; go_simp; all_goals (with_reducible rfl))); simp only [lz])
 refine wpAnyH_takeD (i := 6) (d := (some 64)) (v := .agg ([.int .i64 (wth wa lo).di, .slice Ai (nn + 1) ci]).toArray) rfl rfl (by kernel_rfl) (by kernel_rfl) (by kernel_rfl) (fun _ _ _ h => h) (yieldsIf_load_mid (by rfl) 56 _ rfl gx 0 (by simp [Act.eval, Act.put]) ([.int .i64 (wth wa lo).di, .slice Ai (nn + 1) ci]) _ (hSx) Tryz.underlying56 (by rfl) (by kernel_rfl)) (by assumption) ?_
 simp only [lz]
 (refine wpAnyH_tk 7 (some 65) (v := ?_) rfl rfl ?_ ?_; rotate_left; (focus (intro wq hSw; clear hSw; go_simp; all_goals (with_reducible rfl))); simp only [lz])
 refine rd1 8 rfl fun K hK => ?_
 have hr7 : Z7.ownsRow B 56 2 (.slice (some ⟨gc, 0, none⟩) tn cc) tn (dcells dWait wa ps) := by have h8 := (HTV.out.up hbd7).1; rw [HTN.out] at h8; exact h8
 obtain ⟨gg, fg⟩ := own_get hr7
 have q0 : Z7.cell? ⟨gc, lo * 2, none⟩ = some (.int .i64 (wth wa lo).di) := gg _ _ (by rw [show lo * 2 = lo * dWait.k + 0 from rfl, dcells_at dWait HTT2.out (j := lo) (r := 0) hlw (by decide)]; rfl)
 have q1 : Z7.cell? ⟨gc, lo * 2 + 1, none⟩ = some (ps.getD lo default) := gg _ _ (by rw [show lo * 2 + 1 = lo * dWait.k + 1 from rfl, dcells_at dWait HTT2.out (j := lo) (r := 1) hlw (by decide)]; rfl)
 have ql := (own_lt hr7 gc rfl).2
 clear gg hr7
 go_simp
 clear q0 q1 ql fg
 refine hK.out _ _ (hS9 _ hZ7 _ _) (fun hHeld => ?_)
 clear hK K
 (try simp only [lz])
 refine wpAnyH_done (by kernel_rfl) ?_ _
 have hP7 := waits_put (i := lo) (p := .slice Ai (nn + 1) ci) (ak := ackI (wth wa lo).ak who) (by rw [HTN.out]; exact HTV.out.up hbd7) hlw ((HOV.out.up hbd7).mono hB)
 have hG7 := ((HGV.out.up hbd7).far (p := ⟨gc, lo * 2, none⟩) (by show gs ≠ gc; omega) (.int .i64 (wth wa lo).di)).far (p := ⟨gc, lo * 2 + 1, none⟩) (by show gs ≠ gc; omega) (.slice Ai (nn + 1) ci)
 have hbt7 : But w.heap.size gs w ((Z7.setCell ⟨gc, lo * 2, none⟩ (.int .i64 (wth wa lo).di)).setCell ⟨gc, lo * 2 + 1, none⟩ (.slice Ai (nn + 1) ci)) := (HBTV.out.trans (But.of_below (hbd7.mono HBTV.out.size))).trans (But.of_below (((Below.refl _ _).setCell (p := ⟨gc, lo * 2, none⟩) hgcw _).setCell (p := ⟨gc, lo * 2 + 1, none⟩) hgcw _))
 rw [HTN.out] at hP7
 go_end0
 exact ⟨some ⟨gc, 0, none⟩, tn, cc, rfl, hbt7, hG7, _, by rw [HAW.out]; exact hP7⟩
theorem step_ack (gs B : Nat) (c0 c1 c2 c3 c4 c5 c7 c8 c9 : Value) (tA : Option Addr) (tn tc : Nat) (wa : List WaitD) (who d : Int) (w : World) (hg : Blk w gs 142 [c0, c1, c2, c3, c4, c5, .slice tA tn tc, c7, c8, c9]) (hB : B ≤ w.heap.size) (hT : OwnWs w B (.slice tA tn tc) wa) (hP : SortedW wa) (hbig : BigW wa) (hris : ∀ x ∈ wa, Rises x.ak) (hak : ∀ x ∈ wa, x.ak.length ≤ 1000000) :
  Calls Tryz.prog 134 #[.pointer (some ⟨gs, 0, none⟩), .int .i64 who, .int .i64 d] w fun e w' => ∃ A n c, e = .returned (.tuple #[]) ∧ But w.heap.size gs w w' ∧ Blk w' gs 142 [c0, c1, c2, c3, c4, c5, .slice A n c, c7, c8, c9] ∧ OwnWs w' B (.slice A n c) (ackW wa who d) := by
 obtain ⟨lo, hlo⟩ : ∃ lo, kposW wa d = lo := ⟨_, rfl⟩
 have main : (khasW wa d = false ∨ khasW wa d = true ∧ memS (wth wa (kposW wa d)).ak who = true) → ackW wa who d = wa → Calls Tryz.prog 134 #[.pointer (some ⟨gs, 0, none⟩), .int .i64 who, .int .i64 d] w fun e w' => ∃ A n c, e = .returned (.tuple #[]) ∧ But w.heap.size gs w w' ∧ Blk w' gs 142 [c0, c1, c2, c3, c4, c5, .slice A n c, c7, c8, c9] ∧ OwnWs w' B (.slice A n c) (ackW wa who d) := fun h he => by
  obtain ⟨A', c', e', hW, -, -⟩ := hT.waits hbig
  injection e' with e1 e2 e3
  rw [← e1, ← e2] at hW
  exact (step_ack_no gs c0 c1 c2 c3 c4 c5 c7 c8 c9 tA tn tc wa who d w hg hW hP hbig hris hak h).mono fun e w' ⟨h1, h2⟩ => ⟨tA, tn, tc, h1, But.of_below h2, hg.up h2, by rw [he]; exact hT.up h2⟩
 cases hy : khasW wa d
 ·exact main (.inl hy) (ackW_no hy)
 ·cases hm : memS (wth wa lo).ak who
  ·exact step_ack_yes gs B c0 c1 c2 c3 c4 c5 c7 c8 c9 tA tn tc wa who d w hg hB hT hP hbig hris hak lo hlo hy hm
  ·exact main (.inr ⟨hy, by rw [hlo]; exact hm⟩) (ackW_same hlo hy hm)
open Go.RowKit

theorem rises_of2 {l : List Int} {n : Int} (h : RisesIn l n) : Rises l := fun j hj => h.1 j (j + 1) (by omega) hj
set_option maxHeartbeats 8000000 in
theorem worker_Got2 (P : WorkP) (D : WorkD) (Pm : MsgP) (M : MsgD) (B : Nat) (w : World) (hO : WorkO w B P D) (hs : BigD D) (hak : ∀ x ∈ D.wa, x.ak.length ≤ 50000) (hre : D.re.length + D.wa.length ≤ 800000000) (hfr : 1 ≤ M.fr ∧ M.fr ≤ D.nodes) (hB : B ≤ w.heap.size) (hm : mayW D = true) (hk : M.ki = 2) :
  Calls Tryz.prog 96 #[P.val D, M18 Pm M] w fun e w' => ∃ P' A n c, e = .returned (.tuple #[P'.val (toldD D M.fr M.di), .slice A n c]) ∧ WorkO w' B P' (toldD D M.fr M.di) ∧ OwnMs w' w.heap.size (.slice A n c) [] ∧ Below w.heap.size w w' := by
 obtain ⟨⟨oA, on, oc⟩, ⟨tA, tn, tc⟩, ⟨eA, en, ec⟩, ⟨rA, rn, rc⟩⟩ := P
 obtain ⟨⟨bA, bn, bc⟩, ⟨⟨xA, xn, xc⟩, ⟨yA, yn, yc⟩⟩, ⟨⟨⟨cA, cn, cd⟩, ⟨dA, dn, dc⟩⟩, ⟨sA, sn, sc⟩⟩, ⟨zA, zn, zc⟩⟩ := Pm
 obtain ⟨ki, fr, tt, di, b, hd, cc, ds⟩ := M
 dsimp only at hk hfr
 subst hk
 have HM := ħ (mayW_iff.1 hm)
 have HW := ħ (hO.work hs)
 have HO0 := ħ hO
 have HS := ħ hs
 obtain ⟨lo, hlo⟩ : ∃ lo, kposH D.he di = lo := ⟨_, rfl⟩
 obtain ⟨yh, hyh⟩ : ∃ y, khasH D.he di = y := ⟨_, rfl⟩
 have HLO := ħ hlo
 have HYH := ħ hyh
 have HEN : Hid (D.he.length = en) := ħ HW.out.he.1
 have hen : en ≤ 1024 := by rw [← HEN.out]; exact HM.out.2.2.2.2.2.2.2.1
 have HSO : Hid (SortedH D.he) := ħ (hdB_iff.1 HM.out.2.2.2.2.2.2.2.2.2.2.1).sorted
 have HSW : Hid (SortedW D.wa) := ħ (WaitsOk.sorted HM.out.2.2.2.2.2.2.2.2.2.1)
 have HRI : Hid (∀ x ∈ D.wa, RisesIn x.ak D.nodes) := ħ (waits_rise HM.out.2.2.2.2.2.2.2.2.2.1)
 have HRS : Hid (∀ x ∈ D.wa, Rises x.ak) := ħ (fun x hx => rises_of2 (HRI.out x hx))
 have HAK : Hid (∀ x ∈ D.wa, x.ak.length ≤ 1000000) := ħ (fun x hx => Nat.le_trans (hak x hx) (by decide))
 have HBW : Hid (BigW D.wa) := ħ hs.wa
 have HRI2 := ħ (ackW_rise (d := di) HRI.out hfr.1 hfr.2)
 have HBG2 := ħ (ackW_big (who := fr) (d := di) HBW.out HAK.out)
 have HRL : Hid (D.re.length + (ackW D.wa fr di).length ≤ 800000000) := ħ (by rw [ackW_len]; exact hre)
 have hn1 : 1 ≤ D.nodes := (isS_bd HM.out.1).1
 have hn16 : D.nodes ≤ 16 := (isS_bd HM.out.1).2
 dsimp only
 clear hO hs hm hlo hyh hak hre hfr
 show Calls Tryz.prog 96 #[.agg #[.int .i64 D.id, .int .i64 D.nodes, .int .i64 D.next, .slice oA on oc, .int .i64 D.age, .int .i64 D.clock, .slice tA tn tc, .slice eA en ec, .slice rA rn rc], .agg #[.int .i64 2, .int .i64 fr, .int .i64 tt, .int .i64 di, .int .i64 b.au, .int .i64 b.n, .slice bA bn bc, .int .i64 hd.au, .int .i64 hd.ro, .slice xA xn xc, .slice yA yn yc, .int .i64 cc.h.au, .int .i64 cc.h.ro, .slice cA cn cd, .slice dA dn dc, .int .i64 cc.di, .slice sA sn sc, .slice zA zn zc]] w _
 go_enter Tryz.func96, Tryz.ntmps96
 go_upto_region 2 with fail
 refine wp_world (fun W hW => ?_)
 have HBM : Hid (Blk W (w.heap.size + 1) 49 [.int .i64 2, .int .i64 fr, .int .i64 tt, .int .i64 di, .int .i64 b.au, .int .i64 b.n, .slice bA bn bc, .int .i64 hd.au, .int .i64 hd.ro, .slice xA xn xc, .slice yA yn yc, .int .i64 cc.h.au, .int .i64 cc.h.ro, .slice cA cn cd, .slice dA dn dc, .int .i64 cc.di, .slice sA sn sc, .slice zA zn zc]) := ħ (by rw [hW]; exact ((Blk.new1 w 27 49 [.int .i64 D.id, .int .i64 D.nodes, .int .i64 D.next, .slice oA on oc, .int .i64 D.age, .int .i64 D.clock, .slice tA tn tc, .slice eA en ec, .slice rA rn rc] [.int .i64 2, .int .i64 fr, .int .i64 tt, .int .i64 di, .int .i64 b.au, .int .i64 b.n, .slice bA bn bc, .int .i64 hd.au, .int .i64 hd.ro, .slice xA xn xc, .slice yA yn yc, .int .i64 cc.h.au, .int .i64 cc.h.ro, .slice cA cn cd, .slice dA dn dc, .int .i64 cc.di, .slice sA sn sc, .slice zA zn zc]).up (bel_alloc (Below.refl _ _))).up (bel_alloc (Below.refl _ _)))
 have HR : Hid (Blk W (w.heap.size + 1 + 1) 27 [.int .i64 0, .int .i64 0, .int .i64 0, .slice none 0 0, .int .i64 0, .int .i64 0, .slice none 0 0, .slice none 0 0, .slice none 0 0]) := ħ (by
  rw [hW]
  have h9 := Blk.new1 (w.alloc (.cells #[.int .i64 D.id, .int .i64 D.nodes, .int .i64 D.next, .slice oA on oc, .int .i64 D.age, .int .i64 D.clock, .slice tA tn tc, .slice eA en ec, .slice rA rn rc] 27)) 49 27 [.int .i64 2, .int .i64 fr, .int .i64 tt, .int .i64 di, .int .i64 b.au, .int .i64 b.n, .slice bA bn bc, .int .i64 hd.au, .int .i64 hd.ro, .slice xA xn xc, .slice yA yn yc, .int .i64 cc.h.au, .int .i64 cc.h.ro, .slice cA cn cd, .slice dA dn dc, .int .i64 cc.di, .slice sA sn sc, .slice zA zn zc] [.int .i64 0, .int .i64 0, .int .i64 0, .slice none 0 0, .int .i64 0, .int .i64 0, .slice none 0 0, .slice none 0 0, .slice none 0 0]
  rw [show (w.alloc (.cells #[.int .i64 D.id, .int .i64 D.nodes, .int .i64 D.next, .slice oA on oc, .int .i64 D.age, .int .i64 D.clock, .slice tA tn tc, .slice eA en ec, .slice rA rn rc] 27)).heap.size = w.heap.size + 1 by simp] at h9
  exact h9.up (bel_alloc (Below.refl _ _)))
 have HG : Hid (Blk W (w.heap.size + 1 + 1 + 1) 142 [.int .i64 D.id, .int .i64 D.nodes, .int .i64 D.next, .slice oA on oc, .int .i64 D.age, .int .i64 D.clock, .slice tA tn tc, .slice eA en ec, .slice rA rn rc, .slice none 0 0]) := ħ (by
  rw [hW]
  have h9 := Blk.new1 ((w.alloc (.cells #[.int .i64 D.id, .int .i64 D.nodes, .int .i64 D.next, .slice oA on oc, .int .i64 D.age, .int .i64 D.clock, .slice tA tn tc, .slice eA en ec, .slice rA rn rc] 27)).alloc (.cells #[.int .i64 2, .int .i64 fr, .int .i64 tt, .int .i64 di, .int .i64 b.au, .int .i64 b.n, .slice bA bn bc, .int .i64 hd.au, .int .i64 hd.ro, .slice xA xn xc, .slice yA yn yc, .int .i64 cc.h.au, .int .i64 cc.h.ro, .slice cA cn cd, .slice dA dn dc, .int .i64 cc.di, .slice sA sn sc, .slice zA zn zc] 49)) 27 142 [.int .i64 0, .int .i64 0, .int .i64 0, .slice none 0 0, .int .i64 0, .int .i64 0, .slice none 0 0, .slice none 0 0, .slice none 0 0] [.int .i64 D.id, .int .i64 D.nodes, .int .i64 D.next, .slice oA on oc, .int .i64 D.age, .int .i64 D.clock, .slice tA tn tc, .slice eA en ec, .slice rA rn rc, .slice none 0 0]
  rwa [show ((w.alloc (.cells #[.int .i64 D.id, .int .i64 D.nodes, .int .i64 D.next, .slice oA on oc, .int .i64 D.age, .int .i64 D.clock, .slice tA tn tc, .slice eA en ec, .slice rA rn rc] 27)).alloc (.cells #[.int .i64 2, .int .i64 fr, .int .i64 tt, .int .i64 di, .int .i64 b.au, .int .i64 b.n, .slice bA bn bc, .int .i64 hd.au, .int .i64 hd.ro, .slice xA xn xc, .slice yA yn yc, .int .i64 cc.h.au, .int .i64 cc.h.ro, .slice cA cn cd, .slice dA dn dc, .int .i64 cc.di, .slice sA sn sc, .slice zA zn zc] 49)).heap.size = w.heap.size + 1 + 1 by simp] at h9)
 have hbW : Below w.heap.size w W := by rw [hW]; exact bel_alloc (bel_alloc (bel_alloc (bel_alloc (Below.refl _ _))))
 clear hW
 obtain ⟨gs, hgs⟩ : ∃ g, g = w.heap.size + 1 + 1 + 1 := ⟨_, rfl⟩
 obtain ⟨gr, hgr⟩ : ∃ g, g = w.heap.size + 1 + 1 := ⟨_, rfl⟩
 obtain ⟨gm, hgm⟩ : ∃ g, g = w.heap.size + 1 := ⟨_, rfl⟩
 rw [← hgs] at HG
 rw [← hgr] at HR
 rw [← hgm] at HBM
 have hgs3 : gs = w.heap.size + 3 := by rw [hgs]
 have hgr3 : gr = w.heap.size + 2 := by rw [hgr]
 try rw [← hgs]
 try rw [← hgr]
 try rw [← hgm]
 try rw [← hgs3]
 try rw [← hgr3]
 have hgmr : gm < gr := by omega
 have hgrs : gr < gs := by omega
 have hgwm : w.heap.size < gm := by omega
 clear hgs hgr hgm hgs3 hgr3
 obtain ⟨S, hSd⟩ : ∃ S : World → Prop, S = fun Q => Q.cell? ⟨gs, 7, none⟩ = some (.slice eA en ec) ∧ Q.cell? ⟨gm, 3, none⟩ = some (.int .i64 di) := ⟨_, rfl⟩
 have hS1 : ∀ Q, S Q → Q.cell? ⟨gs, 7, none⟩ = some (.slice eA en ec) := fun Q h => by rw [hSd] at h; exact h.1
 have hS2 : ∀ Q, S Q → Q.cell? ⟨gm, 3, none⟩ = some (.int .i64 di) := fun Q h => by rw [hSd] at h; exact h.2
 have hS : ∀ Q, Below W.heap.size W Q → S Q := fun Q hQ => by rw [hSd]; exact ⟨(HG.out.up hQ).box.2 7 _ rfl, (HBM.out.up hQ).box.2 3 _ rfl⟩
 clear hSd
 refine wp_region_held_drew (S := S) (by kernel_rfl) (hS _ (bel_drew (Below.refl _ _))) (fun hHeld => ?_)
 have hbd : Below W.heap.size W W.drew := bel_drew (Below.refl _ _)
 have hZ := hHeld
 generalize W.drew = Z at *
 (refine wpAnyH_tk 0 (some 17) (v := ?_) rfl rfl ?_ ?_; rotate_left; (focus (intro wq hSw; clear hSw; go_simp; all_goals (with_reducible rfl))); simp only [lz])
 (refine wpAnyH_tk 1 (some 18) (v := ?_) rfl rfl ?_ ?_; rotate_left; (focus (intro wq hSw; clear hSw; go_simp; all_goals (with_reducible rfl))); simp only [lz])
 (refine wpAnyH_tk 2 (some 19) (v := ?_) rfl rfl ?_ ?_; rotate_left; (focus (intro wq hSw; clear hSw; go_simp; all_goals (with_reducible rfl))); simp only [lz])
 (refine wpAnyH_tk 3 (some 20) (v := ?_) rfl rfl ?_ ?_; rotate_left; (focus (intro wq hSw; clear hSw; go_simp; all_goals (with_reducible rfl))); simp only [lz])
 (refine wpAnyH_tk 4 (some 21) (v := ?_) rfl rfl ?_ ?_; rotate_left; (focus (intro wq hSw; have q1 := hS1 wq hSw; clear hSw; go_simp; all_goals (with_reducible rfl))); simp only [lz])
 (refine wpAnyH_tk 5 (some 22) (v := ?_) rfl rfl ?_ ?_; rotate_left; (focus (intro wq hSw; clear hSw; go_simp; all_goals (with_reducible rfl))); simp only [lz])
 (refine wpAnyH_tk 6 (some 23) (v := ?_) rfl rfl ?_ ?_; rotate_left; (focus (intro wq hSw; have q1 := hS2 wq hSw; clear hSw; go_simp; all_goals (with_reducible rfl))); simp only [lz])
 refine rd1 7 rfl fun K hK => ?_
 go_simp
 (go_at_call 118; refine (worker_At eA en ec D.he di lo yh _ (HW.out.he.up (bel_trans hbW hbd)) HSO.out (by omega) HLO.out HYH.out).mono ?_; rintro e w5 ⟨rfl, hb5⟩)
 refine hK.out _ _ (hS _ (bel_trans hbd hb5)) (fun hHeld => ?_)
 clear hK K
 (try simp only [lz])
 (refine wpAnyH_tk 8 (some 16) (v := ?_) rfl rfl ?_ ?_; rotate_left; (focus (intro wq hSw; clear hSw; go_simp; all_goals (with_reducible rfl))); simp only [lz])
 (refine wpAnyH_tk 9 (some 25) (v := ?_) rfl rfl ?_ ?_; rotate_left; (focus (intro wq hSw; clear hSw; go_simp; all_goals (with_reducible rfl))); simp only [lz])
 (refine wpAnyH_tk 10 (some 26) (v := ?_) rfl rfl ?_ ?_; rotate_left; (focus (intro wq hSw; clear hSw; go_simp; all_goals (with_reducible rfl))); simp only [lz])
 (refine wpAnyH_tk 11 (some 7) (v := ?_) rfl rfl ?_ ?_; rotate_left; (focus (intro wq hSw; clear hSw; go_simp; all_goals (with_reducible rfl))); simp only [lz])
 (refine wpAnyH_tk 12 (some 8) (v := ?_) rfl rfl ?_ ?_; rotate_left; (focus (intro wq hSw; clear hSw; go_simp; all_goals (with_reducible rfl))); simp only [lz])
 refine wpAnyH_done (by kernel_rfl) ?_ _
 obtain ⟨X, hX⟩ : ∃ X, X = w5 := ⟨_, rfl⟩
 rw [← hX] at hb5 ⊢
 have hbX0 := bel_trans hbW (bel_trans hbd hb5)
 have HGX := ħ (HG.out.up (bel_trans hbd hb5))
 have HMX := ħ (HBM.out.up (bel_trans hbd hb5))
 have HRX := ħ (HR.out.up (bel_trans hbd hb5))
 have hgs0 : w.heap.size ≤ gs := by omega
 have hBX : B ≤ X.heap.size := Nat.le_trans hB hbX0.size
 clear hX hb5 hbd hHeld hZ HG HBM HR hbW hS hS1 hS2
 have m0 := HMX.out.box.2 0 _ rfl
 have m1 := HMX.out.box.2 1 _ rfl
 have m3 := HMX.out.box.2 3 _ rfl
 have hml := HMX.out.lt
 have hsl := HGX.out.lt
 go_upto_region 20 with (go_at_call 134; refine (step_ack gs B (.int .i64 D.id) (.int .i64 D.nodes) (.int .i64 D.next) (.slice oA on oc) (.int .i64 D.age) (.int .i64 D.clock) (.slice eA en ec) (.slice rA rn rc) (.slice none 0 0) tA tn tc D.wa fr di X HGX.out hBX (HO0.out.up hbX0).wa HSW.out HBW.out HRS.out HAK.out).mono ?_; rintro e wy ⟨A3, n3, c3, rfl, hbt3, hG3, hW3⟩)
 clear m0 m1 m3 hml
 have htY : TKeep 142 X wy := TKeep.of_but HGX.out hbt3
 have HRY := ħ (HRX.out.tk htY (by decide))
 have hgs0x : gs ≤ X.heap.size := Nat.le_of_lt HGX.out.lt
 have hbY : Below w.heap.size w wy := hbX0.trans ((hbt3.below hgs0x).mono hgs0)
 have hBY : B ≤ wy.heap.size := Nat.le_trans hBX hbt3.size
 have HOY := ħ ((HO0.out.up hbX0).tk htY twStep)
 have HGY := ħ hG3
 have HWY := ħ hW3
 clear hbt3 hG3 hW3 htY hbX0 HGX HMX HRX hBX hsl hgs0x
 have hgl := HGY.out.lt
 go_upto_region 21 with (go_at_call 124; refine (step_kept gs B oA A3 eA rA none on oc n3 c3 en ec rn rc 0 0 ({ D with wa := ackW D.wa fr di } : WorkD) wy HGY.out hBY HWY.out HOY.out.re HBG2.out HRL.out HRI2.out hn1 hn16).mono ?_; rintro e wk ⟨Xk, A1, n1, c1, A2, n2, c2, rfl, rfl, hbk, hwk, hrk⟩)
 clear hgl
 have hGk := HGY.out.up hbk
 have hGk1 := hGk.set_ 6 (.slice A1 n1 c1)
 have HGZ := ħ (hGk1.set_ 8 (.slice A2 n2 c2))
 have ht1 := TKeep.setg (o := 6) (u := .slice A1 n1 c1) hGk
 have ht2 := TKeep.setg (o := 8) (u := .slice A2 n2 c2) hGk1
 have ht12 := ht1.trans ht2
 have htZ := (TKeep.of_below hbk).trans ht12
 have HRZ := ħ (HRY.out.tk htZ (by decide))
 have hgw : w.heap.size ≤ gs := hgs0
 have hbZ : Below w.heap.size w ((Xk.setCell ⟨gs, 6, none⟩ (.slice A1 n1 c1)).setCell ⟨gs, 8, none⟩ (.slice A2 n2 c2)) := ((hbY.trans (hbk.mono hbY.size)).setCell (p := ⟨gs, 6, none⟩) hgw _).setCell (p := ⟨gs, 8, none⟩) hgw _
 have hOZ0 := HOY.out.tk htZ twStep
 have HOZ : Hid (WorkO ((Xk.setCell ⟨gs, 6, none⟩ (.slice A1 n1 c1)).setCell ⟨gs, 8, none⟩ (.slice A2 n2 c2)) B ⟨⟨oA, on, oc⟩, ⟨A1, n1, c1⟩, ⟨eA, en, ec⟩, ⟨A2, n2, c2⟩⟩ (toldD D fr di)) := ħ ⟨hOZ0.op, hwk.tk ht12 twStep, hOZ0.he, own_tkw (show World.ownsRow _ B 3 1 _ _ _ from hrk.mono hBY) ht12 twStep (by decide) (by decide)⟩
 rename_i K hK
 exact got_tail gr gs D.id D.nodes D.next D.age D.clock oA A1 eA A2 none on oc n1 c1 en ec n2 c2 0 0 _ hK (by omega) HGZ.out HRZ.out (fun W' ht hbn' => ⟨⟨⟨oA, on, oc⟩, ⟨A1, n1, c1⟩, ⟨eA, en, ec⟩, ⟨A2, n2, c2⟩⟩, none, 0, 0, rfl, HOZ.out.tk ht twWork, OwnMs.nil _ _, hbZ.trans (hbn' _ (by omega))⟩)
open Go.RowKit

/-- append of nothing. -/
theorem wpList_app0 {w : World} {ops : Array Oper} {rest : List Oper} {o : Oper} {a : Act} {Q : Exit → Act → World → Prop} (hgd : o.guard = none) (s x : Operand)
  (ho : o.op = .call { callee := .builtin .append, args := #[s, x], argTypes := #[25, 25] })
  (g n cap : Nat) (hs : a.eval s = .slice (some ⟨g, 0, none⟩) n cap) (hnc : n ≤ cap) (xa : Option Addr) (c : Nat) (hx : a.eval x = .slice xa 0 c)
  (h : wpList Tryz.prog ops Q rest (a.put o.dst (.slice (some ⟨g, 0, none⟩) n cap)) w) : wpList Tryz.prog ops Q (o :: rest) a w := by
 obtain ⟨i0, hi, hz, hz1, hz2⟩ := info_parts int_info
 refine wpList_plain hgd fun K hK => ?_
 have hrun : (Builtin.append_ #[25, 25] o.type #[.slice (some ⟨g, 0, none⟩) n cap, .slice xa 0 c]).run Tryz.prog w = .ok (.slice (some ⟨g, 0, none⟩) n cap) w := by
  cases xa <;> simp [Builtin.append_, run_underlying Tryz.underlying25, sizeOf, typeInfo, hi, Builtin.lenOf, Builtin.firstCells, loadCells, loadCellsFrom, hnc, storeCells]
 unfold Oper.wp execOp
 simp only [ho, resolve, invoke, builtin, Sem.run_bind, Sem.run_pure, Result.andThen_ok, List.map_toArray, List.map_cons, List.map_nil, hs, hx, hrun]
 exact hK _ _ h
theorem OwnI.cap {w : World} {B : Nat} {A : Option Addr} {n c : Nat} {l : List Int} (h : OwnI w B (.slice A n c) l) : n ≤ c ∧ c ≤ 9223372036854775807 := by
 rcases h.2 with ⟨e, _⟩ | ⟨g, cap, cur, e, hb, hgg, h1, h2, _⟩
 ·injection e with e1 e2 e3; omega
 ·injection e with e1 e2 e3; simp only [maxLen] at h2; omega
theorem IntsR.taken {w : World} {A : Option Addr} {n : Nat} {l : List Int} (h : IntsR w A n l) {i : Nat} (hi : i ≤ n) : IntsR w A i (l.take i) := by
 refine ⟨by simp [h.1]; omega, by have := h.2.1; omega, fun hn => ?_⟩
 obtain ⟨b, off, e, hb, hc⟩ := h.2.2 (by omega)
 exact ⟨b, off, e, hb, fun j hj => by rw [hc j (by omega)]; simp [nth, List.getElem?_take, hj]⟩
theorem IntsR.droppedAt {w : World} {b n : Nat} {l : List Int} (h : IntsR w (some ⟨b, 0, none⟩) n l) {i j : Nat} (hj : j < n - i) : w.cell? ⟨b, i + j, none⟩ = some (.int .i64 (nth (l.drop i) j)) := by
 obtain ⟨b', off, e, hb, hc⟩ := h.2.2 (by omega)
 injection e with e; injection e with e1 e2 e3
 subst e1; subst e2
 have := hc (i + j) (by omega)
 rw [Nat.zero_add] at this
 rw [this]; simp [nth]
/-- append of a row to a row of one's own. -/
theorem wpList_appN {w : World} {ops : Array Oper} {rest : List Oper} {o : Oper} {a : Act} {Q : Exit → Act → World → Prop} (hgd : o.guard = none) (s x : Operand)
  (ho : o.op = .call { callee := .builtin .append, args := #[s, x], argTypes := #[25, 25] })
  (B : Nat) (v : Value) (l : List Int) (hs : a.eval s = v) (hown : OwnI w B v l) (g off m c : Nat) (l2 : List Int) (hx : a.eval x = .slice (some ⟨g, off, none⟩) m c) (hm : l2.length = m) (hc : ∀ j, j < m → w.cell? ⟨g, off + j, none⟩ = some (.int .i64 (nth l2 j)))
  (hlen : l.length + m ≤ 1000000000) (hB : B ≤ w.heap.size)
  (h : ∀ v' w', OwnI w' B v' (l ++ l2) → w.grownBy w' v.ownBlock → Below B w w' → (v'.ownBlock = v.ownBlock ∨ v'.ownBlock = some w.heap.size) → wpList Tryz.prog ops Q rest (a.put o.dst v') w') : wpList Tryz.prog ops Q (o :: rest) a w := by
 obtain ⟨i0, hi, hz, hz1, hz2⟩ := info_parts int_info
 refine wpList_plain hgd fun K hK => ?_
 obtain ⟨v', w', hrun, h2, h3, _, h5⟩ := run_append_own_at (P := Tryz.prog) w B 25 o.type 3 i0 (.int .i64 0) 1 8 Tryz.underlying25 hi hz hz1 hz2 rfl (by omega) v l.length (l.map (Value.int .i64)) hown ⟨g, off, none⟩ m c (l2.map (Value.int .i64)) (by simp [hm])
  (by
    intro j u hu
    simp only [List.getElem?_map, Option.map_eq_some_iff] at hu
    obtain ⟨y, hy, rfl⟩ := hu
    obtain ⟨hj, hy2⟩ := List.getElem?_eq_some_iff.1 hy
    have := hc j (by omega)
    rw [show nth l2 j = y by simp [nth, hy]] at this
    simpa [Addr.add_lit] using this) (by intro u hu; simp only [List.mem_map] at hu; obtain ⟨y, _, rfl⟩ := hu; rfl) (by simp only [maxLen]; omega) (by omega) hB
 have hown' : OwnI w' B v' (l ++ l2) := by unfold OwnI; simpa [hm] using h2
 have hbel : Below B w w' := ⟨h3.os, h3.tape, h3.output, h3.size, fun k hk => h3.block k (by omega) (fun e => by have := (hown.lt k e.symm).1; omega)⟩
 unfold Oper.wp execOp
 simp only [ho, resolve, invoke, builtin, Sem.run_bind, Sem.run_pure, Result.andThen_ok, List.map_toArray, List.map_cons, List.map_nil, hs, hx, hrun]
 exact hK _ _ (h v' w' hown' h3 hbel h5)

theorem has_iff7 {l : List Int} {x : Int} : hasS l x = true ↔ x ∈ l := by
 have h := inS_neg (x := x) (l := l)
 unfold hasS
 rw [decide_eq_true_eq]
 constructor
 ·intro h1; exact Classical.byContradiction fun h2 => by have := h.2 h2; omega
 ·intro h1; exact Classical.byContradiction fun h2 => (h.1 (by omega)) h1
theorem memS_of_has {l : List Int} {x : Int} (h : hasS l x = true) : memS l x = true := by unfold memS; exact decide_eq_true (has_iff7.1 h)
theorem hasS_ne {l : List Int} {x : Int} (h : hasS l x = false) {i : Nat} (hi : i < l.length) : nth l i ≠ x := fun e => by
 have : x ∈ l := by rw [← e]; simp [nth, hi]
 rw [has_iff7.2 this] at h; cases h
def WithE (l : List Int) (x : Int) (B : Nat) (v : Value) (w : World) (e : Ending) (w' : World) : Prop :=
 ∃ v', e = .returned v' ∧ OwnI w' B v' (ackI l x) ∧ Below w.heap.size w w' ∧ (v'.ownBlock = v.ownBlock ∨ ∃ g, v'.ownBlock = some g ∧ w.heap.size ≤ g)
theorem WithE.new {l : List Int} {x : Int} {B : Nat} {v v3 : Value} {w w3 : World} {i : Nat} (hown : OwnI w3 w.heap.size v3 (l.take i ++ [x] ++ l.drop i)) (hB : B ≤ w.heap.size) (hr : Rises l) (hi : i ≤ l.length) (h1 : ∀ j, j < i → nth l j < x) (h2 : i < l.length → x < nth l i) (hb : Below w.heap.size w w3) : WithE l x B v w (.returned v3) w3 := by
 have hp : posI l x = i := posI_eq hi h1 (fun h => by have := h2 h; omega)
 have hm : ¬ memS l x = true := fun h => by
  unfold memS at h
  obtain ⟨j, hj, e⟩ := mem_nth.1 (of_decide_eq_true h)
  rcases Nat.lt_or_ge j i with g | g
  ·have := h1 j g; omega
  ·have a := h2 (by omega)
   rcases Nat.lt_or_ge i j with g2 | g2
   ·have := hr.lt g2 hj; omega
   ·obtain rfl : i = j := by omega
    omega
 have e : ackI l x = l.take i ++ [x] ++ l.drop i := by
  unfold ackI; rw [if_neg hm, hp]; unfold insAt; simp
 refine ⟨v3, rfl, by rw [e]; exact hown.mono hB, hb, ?_⟩
 rcases hown.shape with ⟨_, e⟩ | ⟨g, c, rfl, hg⟩
 ·simp at e
 ·exact .inr ⟨g, rfl, hg⟩
set_option maxHeartbeats 2000000 in
theorem ref0_With (v : Value) (l : List Int) (x : Int) (B : Nat) (w : World) (hown : OwnI w B v l) (hr : Rises l) (hlen : l.length ≤ 100000) (hB : B ≤ w.heap.size) :
  Calls Tryz.prog 91 #[v, .int .i64 x] w fun e w' => WithE l x B v w e w' := by
 have HR := ħ hr
 cases hh : hasS l x
 case true =>
  obtain ⟨A, c, rfl, hint, _⟩ := hown.ints (by omega)
  have HI := ħ hint
  have HO := ħ hown
  have hd : decide (0 ≤ inS l x) = true := hh
  have HH := ħ hh
  obtain ⟨n, hn⟩ : ∃ n, n = l.length := ⟨_, rfl⟩
  rw [← hn] at HI ⊢
  have HN := ħ hn
  clear hint hh hown hr hn
  go_enter Tryz.func91, Tryz.ntmps91
  go_wp2_with fail
  refine (ref0_In A n c l x _ HI.out).mono ?_
  rintro e w' ⟨rfl, rfl⟩
  go_wp2_with fail
  go_ret
  have hm : ackI l x = l := by unfold ackI; rw [if_pos (memS_of_has HH.out)]
  exact ⟨_, rfl, by rw [HN.out, hm]; exact HO.out, Below.refl _ _, .inl rfl⟩
 case false =>
  have hd : decide (0 ≤ inS l x) = false := hh
  have HH := ħ hh
  clear hh
  rcases hown.shape with ⟨rfl, rfl⟩ | ⟨b, c, rfl, hbB⟩
  ·clear hown hr
   go_enter Tryz.func91, Tryz.ntmps91
   go_wp2_with fail
   refine (ref0_In none 0 0 [] x _ (IntsR.nil _ _)).mono ?_
   rintro e w' ⟨rfl, rfl⟩
   go_wp2_with fail
   go_loop [5] (fun ix => ix = .int .i64 0) (fun ix => 0)
   case atStart => exact rfl
   case round =>
    subst hrel
    go_wp2_with fail
    refine (ref0_CopyNumbers none 0 0 [] _ (IntsR.nil _ _) (by omega)).mono ?_
    rintro e w1 ⟨v1, rfl, hown1, hb1⟩
    have hsz1 := hb1.size
    go_wp2_with (first
     | (at_builtin; refine wpList_app1 rfl (.tmp 29) (.tmp 31) rfl w.heap.size v1 [] rfl (hown1.alloc _) _ x rfl (cell0_alloc _ _ _) (by simp) (le_alloc hsz1) ?_; intro v2 w2 hown2 hg2 hbel2 hat2; rcases hown2.shape with ⟨_, e2⟩ | ⟨g2, c2, rfl, hg3⟩; (exact absurd e2 (by simp)); have hcap2 := hown2.cap)
     | (at_builtin; refine wpList_app0 rfl (.tmp 33) (.tmp 36) rfl g2 _ c2 rfl hcap2.1 none _ rfl ?_))
    go_ret
    exact WithE.new (i := 0) (by simpa using hown2) hB HR.out (Nat.le_refl _) (fun j hj => by omega) (fun h => absurd h (by simp)) ((bel_alloc hb1).trans hbel2)
  ·have hcap := hown.cap
   have hint : IntsR w (some ⟨b, 0, none⟩) l.length l := by
    obtain ⟨A, c', e, hint, _⟩ := hown.ints (by omega)
    injection e with e1 e2 e3
    rw [e1]; exact hint
   have HI := ħ hint
   have HO := ħ hown
   obtain ⟨n, hn⟩ : ∃ n, n = l.length := ⟨_, rfl⟩
   rw [← hn] at HI hcap hlen ⊢
   have HN := ħ hn
   clear hint hown hr hn
   go_enter Tryz.func91, Tryz.ntmps91
   go_wp2_with fail
   refine (ref0_In _ n c l x _ HI.out).mono ?_
   rintro e w' ⟨rfl, rfl⟩
   go_wp2_with fail
   go_loop [5] (fun ix => ∃ i : Nat, i ≤ n ∧ ix = .int .i64 i ∧ Hid (∀ j, j < i → nth l j < x)) (fun ix => n - (intOf ix).toNat)
   case atStart => exact ⟨0, Nat.zero_le _, rfl, ħ (fun j hj => by omega)⟩
   case round =>
    obtain ⟨i, hi, rfl, hlt⟩ := hrel
    by_cases h1 : i < n
    ·obtain ⟨b', off', e', hb, hc⟩ := HI.out.2.2 (by omega)
     injection e' with e'; injection e' with e1 e2 e3
     subst e1; subst e2
     have hci := hc i h1
     rw [Nat.zero_add] at hci
     obtain ⟨z, hz⟩ : ∃ z, z = nth l i := ⟨_, rfl⟩
     rw [← hz] at hci
     have HZ := ħ hz
     clear hc hz
     by_cases h2 : z < x
     ·have hnx : ∀ j, j < i + 1 → nth l j < x := fun j hj => by
       rcases Nat.lt_or_ge j i with h | h
       ·exact hlt.out j h
       ·have e : j = i := by omega
        subst e
        rw [← HZ.out]
        exact h2
      have HNX := ħ hnx
      clear hnx
      go_wp2_with fail
      (first | (go_round; (case rel => exact ⟨i + 1, by omega, by go_num, HNX⟩); (case measure => (simp [intOf] <;> omega))) | (go_roundw; (case rel => exact ⟨i + 1, by omega, by go_num, HNX⟩); (case measure => (simp [intOf] <;> omega))) | (refine ⟨?_, by simp [intOf] <;> omega⟩; (repeat apply Exists.intro); refine ⟨?rel, ?fr⟩; (case fr => ((repeat' apply And.intro) <;> rfl)); (case rel => exact ⟨i + 1, by omega, by go_num, HNX⟩)))
     ·have hne := hasS_ne HH.out (i := i) (by rw [← HN.out]; exact h1)
      have hxz : x < nth l i := by rw [← HZ.out] at hne ⊢; omega
      have HXZ := ħ hxz
      have hcne : ¬ c = i := by omega
      clear hne hxz
      go_wp2_with fail
      refine (ref0_CopyNumbers _ i _ (l.take i) _ (HI.out.taken hi) (by omega)).mono ?_
      rintro e w1 ⟨v1, rfl, hown1, hb1⟩
      have hsz1 := hb1.size
      have htl : (l.take i).length = i := by rw [List.length_take, ← HN.out]; omega
      have HTL := ħ htl
      clear htl
      go_wp2_with (first
       | (at_builtin; refine wpList_app1 rfl (.tmp 29) (.tmp 31) rfl w.heap.size v1 (l.take i) rfl (hown1.alloc _) _ x rfl (cell0_alloc _ _ _) (by rw [HTL.out]; omega) (le_alloc hsz1) ?_; intro v2 w2 hown2 hg2 hbel2 hat2; have hbw2 : Below w.heap.size w w2 := (bel_alloc hb1).trans hbel2)
       | (at_builtin; refine wpList_appN rfl (.tmp 33) (.tmp 36) rfl w.heap.size v2 (l.take i ++ [x]) rfl hown2 b i (n - i) (c - i) (l.drop i) rfl (by rw [List.length_drop, ← HN.out]) (fun j hj => ?_) (by rw [List.length_append, HTL.out]; simp; omega) hbw2.size ?_; rotate_left; intro v3 w3 hown3 hg3 hbel3 hat3))
      ·go_ret
       exact WithE.new (i := i) hown3 hB HR.out (by rw [← HN.out]; exact hi) hlt.out (fun _ => HXZ.out) (hbw2.trans hbel3)
      ·exact ((HI.out.up hbw2).droppedAt hj)
    ·have hin : i = n := by omega
     subst hin
     have htl : (l.take i).length = i := by rw [List.length_take, ← HN.out]; omega
     have HTL := ħ htl
     clear htl
     by_cases hcn : c = i
     all_goals
      go_wp2_with fail
      refine (ref0_CopyNumbers _ i _ (l.take i) _ (HI.out.taken hi) (by omega)).mono ?_
      rintro e w1 ⟨v1, rfl, hown1, hb1⟩
      have hsz1 := hb1.size
      go_wp2_with (first
       | (at_builtin; refine wpList_app1 rfl (.tmp 29) (.tmp 31) rfl w.heap.size v1 (l.take i) rfl (hown1.alloc _) _ x rfl (cell0_alloc _ _ _) (by rw [HTL.out]; omega) (le_alloc hsz1) ?_; intro v2 w2 hown2 hg2 hbel2 hat2; rcases hown2.shape with ⟨_, e2⟩ | ⟨g2, c2, e3, hg3⟩; (exact absurd e2 (by simp)); (obtain ⟨n2, hn2⟩ : ∃ n2, n2 = (l.take i ++ [x]).length := ⟨_, rfl⟩); rw [← hn2] at e3; clear hn2; subst e3; have hcap2 := hown2.cap; have hbw2 : Below w.heap.size w w2 := (bel_alloc hb1).trans hbel2)
       | (at_builtin; refine wpList_app0 rfl (.tmp 33) (.tmp 36) rfl g2 _ c2 rfl hcap2.1 _ _ rfl ?_))
      go_ret
      exact WithE.new (i := i) (by rw [List.drop_eq_nil_of_le (by rw [← HN.out]; exact Nat.le_refl _), List.append_nil]; exact hown2) hB HR.out (by rw [← HN.out]; exact hi) hlt.out (fun h => absurd h (by rw [← HN.out]; omega)) hbw2
open Go.RowKit

theorem ref2_Quo (n : Int) (w : World) (h0 : 0 ≤ n) (h1 : n ≤ 1000) : Calls Tryz.prog 117 #[.int .i64 n] w fun e w' => e = .returned (.int .i64 (2 * (n / 3) + 1)) ∧ w = w' := by
 go_enter Tryz.func117, Tryz.ntmps117
 go_wp2
 go_ret
 exact ⟨rfl, rfl⟩
theorem inS_ge (l : List Int) (x : Int) (y : Bool) (h : memS l x = y) : decide (0 ≤ inS l x) = y := by
 subst h
 unfold memS
 by_cases hm : x ∈ l
 ·have : ¬ inS l x < 0 := fun q => inS_neg.1 q hm
  simp [hm]; omega
 ·have : inS l x < 0 := inS_neg.2 hm
  simp [hm, this]
/-- How many of 1 to k stand in l. -/
def cntK (l : List Int) : Nat → Nat
 | 0 => 0
 | k + 1 => cntK l k + if memS l ((k : Int) + 1) = true then 1 else 0
theorem cntK_filter {l : List Int} (hd : l.Nodup) (h1 : ∀ x ∈ l, 1 ≤ x) : ∀ k : Nat, cntK l k = (l.filter fun x => decide (x ≤ (k : Int))).length
 | 0 => by
  have : l.filter (fun x => decide (x ≤ ((0 : Nat) : Int))) = [] := List.filter_eq_nil_iff.2 (fun x hx => by have := h1 x hx; simp; omega)
  rw [this]; rfl
 | k + 1 => by
  rw [cntK, cntK_filter hd h1 k]
  clear h1
  induction l with
  | nil => simp [memS]
  | cons a l ih =>
   have hda := List.nodup_cons.1 hd
   have ih := ih hda.2
   by_cases ha : a = (k : Int) + 1
   ·subst ha
    have hm : memS l ((k : Int) + 1) = false := by unfold memS; simp [hda.1]
    have hm2 : memS (((k : Int) + 1) :: l) ((k : Int) + 1) = true := by unfold memS; simp
    rw [hm] at ih
    rw [hm2]
    have e1 : decide (((k : Int) + 1) ≤ (k : Int)) = false := by simp; omega
    have e2 : decide (((k : Int) + 1) ≤ ((k + 1 : Nat) : Int)) = true := by simp
    rw [List.filter_cons, List.filter_cons, e1, e2]
    simp only [Bool.false_eq_true, if_false, if_true, List.length_cons]
    simp only [Bool.false_eq_true, if_false, Nat.add_zero] at ih
    omega
   ·have hm : memS (a :: l) ((k : Int) + 1) = memS l ((k : Int) + 1) := by unfold memS; simp [Ne.symm ha]
    rw [hm, List.filter_cons, List.filter_cons]
    have e1 : decide (a ≤ ((k + 1 : Nat) : Int)) = decide (a ≤ (k : Int)) := by
     rw [Bool.eq_iff_iff]; simp only [decide_eq_true_eq]; omega
    rw [e1]
    split <;> (try simp only [List.length_cons]) <;> omega
theorem RisesIn.nodup {l : List Int} {m : Int} (h : RisesIn l m) : l.Nodup := by
 rw [List.nodup_iff_pairwise_ne, List.pairwise_iff_getElem]
 intro i j hi hj hij
 have := h.1 i j hij hj
 simp only [nth, List.getD_eq_getElem?_getD, List.getElem?_eq_getElem hi, List.getElem?_eq_getElem hj, Option.getD_some] at this
 omega
theorem RisesIn.cnt {l : List Int} {m : Int} (h : RisesIn l m) (hm : 0 ≤ m) : cntK l m.toNat = l.length := by
 have hb : ∀ x ∈ l, 1 ≤ x ∧ x ≤ m := fun x hx => by
  obtain ⟨j, hj, e⟩ := List.getElem_of_mem hx
  have := h.2 j hj
  simp only [nth, List.getD_eq_getElem?_getD, List.getElem?_eq_getElem hj, Option.getD_some] at this
  rw [← e]; exact this
 rw [cntK_filter h.nodup (fun x hx => (hb x hx).1), List.filter_eq_self.2 (fun x hx => by have := (hb x hx).2; simp; omega)]
set_option maxHeartbeats 1000000 in
theorem ref2_Count (A : Option Addr) (n c : Nat) (l : List Int) (nodes : Int) (w : World) (hl : IntsR w A n l) (hr : RisesIn l nodes) (h0 : 0 ≤ nodes) (hm : nodes ≤ 16) :
  Calls Tryz.prog 116 #[.int .i64 nodes, .slice A n c] w fun e w' => e = .returned (.int .i64 (n : Int)) ∧ w = w' := by
 have HL := ħ hl
 have HN := ħ hl.1
 have HC := ħ (hr.cnt h0)
 have hle : ∀ k, cntK l k ≤ k := fun k => by
  induction k with
  | zero => exact Nat.le_refl _
  | succ k ih => unfold cntK; split <;> omega
 have HLE := ħ hle
 clear hl hr hle
 go_enter Tryz.func116, Tryz.ntmps116
 go_wp2_with fail
 go_loop [5, 6] (fun v iv => ∃ k : Nat, (k : Int) ≤ nodes ∧ iv = .int .i64 ((k : Int) + 1) ∧ v = .int .i64 (cntK l k : Nat)) (fun _ iv => 18 - (intOf iv).toNat)
 case atStart => exact ⟨0, h0, by go_num, rfl⟩
 case round =>
  obtain ⟨k, hk, rfl, rfl⟩ := hrel
  obtain ⟨cn, hcn⟩ : ∃ x, cntK l k = x := ⟨_, rfl⟩
  have hcb := HLE.out k
  have HCN := ħ hcn
  rw [hcn] at hcb ⊢
  clear hcn
  by_cases hlt : (k : Int) < nodes
  ·have hd : decide ((k : Int) + 1 ≤ nodes) = true := by simp only [decide_eq_true_eq]; omega
   obtain ⟨y, hy⟩ : ∃ y, memS l ((k : Int) + 1) = y := ⟨_, rfl⟩
   have hI := inS_ge l ((k : Int) + 1) y hy
   have HY := ħ hy
   clear hy
   cases y
   ·have hs : cntK l (k + 1) = cn := by rw [cntK, HY.out, HCN.out]; simp
    have HS := ħ hs
    clear hs
    go_wp2_with (go_at_call 70; refine (ref0_In A n c l ((k : Int) + 1) _ HL.out).mono ?_; rintro e w' ⟨rfl, rfl⟩)
    (first | (go_round; (case rel => exact ⟨k + 1, by omega, by go_num, by (rw [HS.out])⟩); (case measure => (simp [intOf] <;> omega))) | (go_roundw; (case rel => exact ⟨k + 1, by omega, by go_num, by (rw [HS.out])⟩); (case measure => (simp [intOf] <;> omega))) | (refine ⟨?_, by simp [intOf] <;> omega⟩; (repeat apply Exists.intro); refine ⟨?rel, ?fr⟩; (case fr => ((repeat' apply And.intro) <;> rfl)); (case rel => exact ⟨k + 1, by omega, by go_num, by (rw [HS.out])⟩)))
   ·have hs : cntK l (k + 1) = cn + 1 := by rw [cntK, HY.out, HCN.out]; simp
    have HS := ħ hs
    clear hs
    go_wp2_with (go_at_call 70; refine (ref0_In A n c l ((k : Int) + 1) _ HL.out).mono ?_; rintro e w' ⟨rfl, rfl⟩)
    (first | (go_round; (case rel => exact ⟨k + 1, by omega, by go_num, by (rw [HS.out]; go_num)⟩); (case measure => (simp [intOf] <;> omega))) | (go_roundw; (case rel => exact ⟨k + 1, by omega, by go_num, by (rw [HS.out]; go_num)⟩); (case measure => (simp [intOf] <;> omega))) | (refine ⟨?_, by simp [intOf] <;> omega⟩; (repeat apply Exists.intro); refine ⟨?rel, ?fr⟩; (case fr => ((repeat' apply And.intro) <;> rfl)); (case rel => exact ⟨k + 1, by omega, by go_num, by (rw [HS.out]; go_num)⟩)))
  ·have hd : decide ((k : Int) + 1 ≤ nodes) = false := by simp only [decide_eq_false_iff_not]; omega
   have hkn : nodes.toNat = k := by omega
   have hfin : cn = n := by rw [← HCN.out, ← hkn, HC.out, HN.out]
   have HF := ħ hfin
   clear hfin hkn
   go_wp2_with fail
   go_ret
   exact ⟨by rw [← HF.out]; rfl, rfl⟩
open Go.RowKit

theorem step_app1 {ops : Array Oper} {o : Oper} {a : Act} {w : World} {K : Act → World → Prop} {Q : Exit → Act → World → Prop} {E : Prop}
  (hg : o.guard = none) (s x : Operand) (ho : o.op = .call { callee := .builtin .append, args := #[s, x], argTypes := #[25, 25] }) (hty : o.type = 25)
  (B : Nat) (v : Value) (l : List Int) (hs : a.eval s = v) (hown : OwnI w B v l) (g : Nat) (y : Int) (hx : a.eval x = .slice (some ⟨g, 0, none⟩) 1 1) (hc : w.cell? ⟨g, 0, none⟩ = some (.int .i64 y))
  (hlen : l.length ≤ 900000000) (hB : B ≤ w.heap.size)
  (h : ∀ v' w', OwnI w' B v' (l ++ [y]) → w.grownBy w' v.ownBlock → Below B w w' → (v'.ownBlock = v.ownBlock ∨ v'.ownBlock = some w.heap.size) → K (a.put o.dst v') w') :
  if Region.wanted o (yielded ops a.tmps) = true then Oper.wp Tryz.prog o a w K Q else E := by
 have hw : Region.wanted o (yielded ops a.tmps) = true := by simp [Region.wanted, hg]
 rw [if_pos hw]
 obtain ⟨v', w', hrun, h2, h3, h4, h5⟩ := run_app_Int w B v l.length (l.map (Value.int .i64)) hown g 0 1 1 [.int .i64 y] rfl
  (fun j u hj => by cases j with
   | zero => simp at hj; subst hj; simpa using hc
   | succ j => simp at hj) (by simp [Value.oneCell']) (by omega) hB
 have hown' : OwnI w' B v' (l ++ [y]) := by unfold OwnI; simpa using h2
 exact Lib.wp_append_run w s x _ _ ho v _ hs hx v' w' (by rw [hty]; exact hrun) (h v' w' hown' h3 h4 h5)
theorem inS_ltC (l : List Int) (x : Int) (y : Bool) (h : memS l x = y) : decide (inS l x < 0) = !y := by
 subst h
 unfold memS
 by_cases hm : x ∈ l
 ·have : ¬ inS l x < 0 := fun q => inS_neg.1 q hm
  simp [hm, this]
 ·have : inS l x < 0 := inS_neg.2 hm
  simp [hm, this]
theorem isS_quo {n : Int} (h : isS n = true) : n / 3 = (n - 1) / 3 := by have := isS_iff.1 h; omega
theorem ref2_Quo3 (n q : Int) (w : World) (h : isS n = true) (hq : 2 * ((n - 1) / 3) + 1 = q) : Calls Tryz.prog 117 #[.int .i64 n] w fun e w' => e = .returned (.int .i64 q) ∧ w = w' := by
 have hb := isS_bd h
 rw [← hq, ← isS_quo h]
 exact ref2_Quo n w (by omega) (by omega)
theorem blk_grownI {w w' : World} {B g k n : Nat} {t t' : TypeId} {v : Value} {cs xs : List Value} (h : Blk w g t cs) (hv : w.ownsRow B t' k v n xs) (hne : t ≠ t') (hg : w.grownBy w' v.ownBlock) : Blk w' g t cs := blk_grownT h hv hne hg
/-- Nothing that stood there turns but block g and the block rq. -/
structure KB (w w' : World) (g : Nat) (rq : Option Nat) : Prop where
 os : w'.os = w.os
 tape : w'.tape = w.tape
 output : w'.output = w.output
 size : w.heap.size ≤ w'.heap.size
 block : ∀ k, k < w.heap.size → k ≠ g → rq ≠ some k → w'.heap[k]? = w.heap[k]?
theorem KB.refl (w : World) (g : Nat) (rq : Option Nat) : KB w w g rq := ⟨rfl, rfl, rfl, Nat.le_refl _, fun _ _ _ _ => rfl⟩
theorem KB.below {w a b : World} {g n : Nat} {rq : Option Nat} (h : KB w a g rq) (k : Below n a b) (hn : w.heap.size ≤ n) : KB w b g rq := ⟨k.os.trans h.os, k.tape.trans h.tape, k.output.trans h.output, Nat.le_trans h.size k.size, fun i h1 h2 h3 => (k.block i (by omega)).trans (h.block i h1 h2 h3)⟩
theorem KB.grown {w a b : World} {g : Nat} {rq v : Option Nat} (h : KB w a g rq) (k : a.grownBy b v) (hv : v = rq ∨ ∃ q, v = some q ∧ w.heap.size ≤ q) : KB w b g rq := ⟨k.os.trans h.os, k.tape.trans h.tape, k.output.trans h.output, Nat.le_trans h.size k.size, fun i h1 h2 h3 => (k.block i (Nat.lt_of_lt_of_le h1 h.size) (by
 rcases hv with e | ⟨q, e, hq⟩
 ·rw [e]; exact fun e2 => h3 e2.symm
 ·rw [e]; intro e2; injection e2 with e2; omega)).trans (h.block i h1 h2 h3)⟩
theorem KB.setg {w a : World} {g o : Nat} {rq : Option Nat} {u : Value} (h : KB w a g rq) : KB w (a.setCell ⟨g, o, none⟩ u) g rq := ⟨h.os, h.tape, h.output, by simpa [World.setCell] using h.size, fun k h1 h2 h3 => (Below.heap_setCell _ _ _ _ h2).trans (h.block k h1 h2 h3)⟩
theorem KB.own {w w' : World} {g : Nat} {rq : Option Nat} (h : KB w w' g rq) {B k n : Nat} {t : TypeId} {v : Value} {xs : List Value} (ho : w.ownsRow B t k v n xs) (hg : v.ownBlock ≠ some g) (hr : ∀ q, rq = some q → v.ownBlock ≠ some q) : w'.ownsRow B t k v n xs :=
 own_of_heap ho fun q hq => h.block q (own_lt ho q hq).2 (fun e => hg (by rw [hq, e])) (fun e => hr q e hq)
theorem own_neT {w : World} {B k n g : Nat} {t T : TypeId} {v : Value} {xs cs : List Value} (ho : w.ownsRow B t k v n xs) (hg : Blk w g T cs) (hne : t ≠ T) : v.ownBlock ≠ some g := fun e => by
 obtain ⟨_, c2, e2⟩ := own_typeB ho g e
 have hb' : w.heap[g]? = some (.cells cs.toArray T (0, 0)) := hg
 rw [hb'] at e2
 injection e2 with e2
 injection e2 with _ e3 _
 exact hne e3.symm
theorem own_neO {w : World} {B B2 k k2 n n2 : Nat} {t T : TypeId} {v u : Value} {xs ys : List Value} (ho : w.ownsRow B t k v n xs) (hu : w.ownsRow B2 T k2 u n2 ys) (hne : t ≠ T) : ∀ q, u.ownBlock = some q → v.ownBlock ≠ some q := fun q e1 e2 => by
 obtain ⟨_, c2, h2⟩ := own_typeB ho q e2
 obtain ⟨_, c3, h3⟩ := own_typeB hu q e1
 rw [h2] at h3
 injection h3 with h3
 injection h3 with _ e3 _
 exact hne e3
/-- The lists of what waits lie apart from the block rq. -/
def ApartW (ps : List Value) (l : List WaitD) (rq : Option Nat) : Prop := ∀ j, j < l.length → ∀ q, rq = some q → (ps.getD j default).ownBlock ≠ some q
def QK (w : World) (B : Nat) (rq : Option Nat) (qs : List Value) (l : List WaitD) : Prop := qs.length = l.length ∧ ∀ j, j < l.length → OwnI w B (qs.getD j default) (l.getD j default).ak ∧ ∀ q, rq = some q → (qs.getD j default).ownBlock ≠ some q
theorem qk_snoc {w : World} {B : Nat} {rq : Option Nat} {qs : List Value} {l : List WaitD} {p : Value} {x : WaitD} (h : QK w B rq qs l) (hx : OwnI w B p x.ak ∧ ∀ q, rq = some q → p.ownBlock ≠ some q) : QK w B rq (qs ++ [p]) (l ++ [x]) := by
 obtain ⟨h1, h2⟩ := h
 refine ⟨by simp [h1], fun j hj => ?_⟩
 rw [List.length_append, List.length_singleton] at hj
 rcases Nat.lt_or_ge j l.length with hlt | hge
 ·have e1 : (qs ++ [p]).getD j default = qs.getD j default := by simp [List.getElem?_append, h1, hlt]
  have e2 : (l ++ [x]).getD j default = l.getD j default := by simp [List.getElem?_append, hlt]
  rw [e1, e2]; exact h2 j hlt
 ·obtain rfl : j = l.length := by omega
  have e1 : (qs ++ [p]).getD l.length default = p := by rw [← h1]; simp
  have e2 : (l ++ [x]).getD l.length default = x := by simp
  rw [e1, e2]; exact hx
set_option maxHeartbeats 8000000 in
theorem ref13_kept (g B : Nat) (oA tA eA rA uA : Option Addr) (on oc tn tc en ec rn rc un uc : Nat) (D : WorkD) (ps : List Value) (w : World) (hg : Blk w g 70 [.int .i64 D.id, .int .i64 D.nodes, .int .i64 D.next, .slice oA on oc, .int .i64 D.age, .int .i64 D.clock, .slice tA tn tc, .slice eA en ec, .slice rA rn rc, .slice uA un uc]) (hB : B ≤ w.heap.size) (hT : OwnT dWait w B (.slice tA tn tc) ps D.wa) (hR : OwnI w B (.slice rA rn rc) D.re) (hap : ApartW ps D.wa (Value.slice rA rn rc).ownBlock) (hbw : BigW D.wa) (hre : D.re.length + D.wa.length ≤ 800000000) (hris : ∀ x ∈ D.wa, RisesIn x.ak D.nodes) (hns : isS D.nodes = true) :
  Calls Tryz.prog 87 #[.pointer (some ⟨g, 0, none⟩)] w fun e w' => ∃ A1 n1 c1 A2 n2 c2, e = .returned (.tuple #[]) ∧ Blk w' g 70 [.int .i64 D.id, .int .i64 D.nodes, .int .i64 D.next, .slice oA on oc, .int .i64 D.age, .int .i64 D.clock, .slice A1 n1 c1, .slice eA en ec, .slice A2 n2 c2, .slice uA un uc] ∧ KB w w' g (Value.slice rA rn rc).ownBlock ∧ OwnWs w' B (.slice A1 n1 c1) (keptW D.nodes D.wa) ∧ OwnI w' B (.slice A2 n2 c2) (keptR D.nodes D.re D.wa) := by
 have HTN : Hid (D.wa.length = tn) := ħ (by obtain ⟨A', c', e', _⟩ := hT.read; injection e' with _ e2 _; exact e2.symm)
 obtain ⟨q, hq⟩ : ∃ q, 2 * ((D.nodes - 1) / 3) + 1 = q := ⟨_, rfl⟩
 have hn1 := (isS_bd hns).1
 have hn16 := (isS_bd hns).2
 have hq8 : 0 ≤ q ∧ q ≤ 100 := by omega
 have htn : tn ≤ 800000000 := by rw [← HTN.out]; exact hbw.1
 obtain ⟨rq, hrq⟩ : ∃ x, (Value.slice rA rn rc).ownBlock = x := ⟨_, rfl⟩
 rw [hrq] at hap ⊢
 have hneW : ∀ q, rq = some q → (Value.slice tA tn tc).ownBlock ≠ some q := fun q e => own_neO hT.1 (show World.ownsRow _ B 3 1 _ _ _ from hR) (by decide) q (by rw [hrq]; exact e)
 have HNW : Hid ((Value.slice tA tn tc).ownBlock ≠ some g ∧ ∀ q, rq = some q → (Value.slice tA tn tc).ownBlock ≠ some q) := ħ ⟨own_neT hT.1 hg (by decide), hneW⟩
 have HNP : Hid (∀ (wr : World), KB w wr g rq → ∀ j, j < D.wa.length → OwnI wr B (ps.getD j default) (D.wa.getD j default).ak) := ħ (fun wr hk j hj => hk.own (show World.ownsRow _ B 3 1 _ _ _ from hT.2.2 j hj) (own_neT (show World.ownsRow _ B 3 1 _ _ _ from hT.2.2 j hj) hg (by decide)) (fun q e => hap j hj q e))
 have HG := ħ hg
 have HT := ħ hT
 have HQ := ħ hq
 have HRS := ħ hris
 have HRE := ħ hre
 have HBW := ħ hbw
 have HNS := ħ hns
 have HR0 := ħ hR
 have HAP := ħ hap
 have HRQ0 : Hid ((Value.slice rA rn rc).ownBlock = rq ∨ ∃ q, (Value.slice rA rn rc).ownBlock = some q ∧ w.heap.size ≤ q) := ħ (.inl hrq)
 have hgw : g < w.heap.size := hg.lt
 clear hg hT hq hris hre hbw hR hap hns hrq hneW
 go_enter Tryz.func87, Tryz.ntmps87
 go_wp2_with fail
 go_loopw [2, 3] (fun vl iv wr => ∃ (k : Nat) (qs : List Value) (r1A : Option Addr) (r1n r1c : Nat), k ≤ tn ∧ iv = .int .i64 k ∧ Hid (Blk wr g 70 [.int .i64 D.id, .int .i64 D.nodes, .int .i64 D.next, .slice oA on oc, .int .i64 D.age, .int .i64 D.clock, .slice tA tn tc, .slice eA en ec, .slice r1A r1n r1c, .slice uA un uc]) ∧ Hid (OwnI wr B (.slice r1A r1n r1c) (keptR D.nodes D.re (D.wa.take k))) ∧ Hid ((Value.slice r1A r1n r1c).ownBlock = rq ∨ ∃ q, (Value.slice r1A r1n r1c).ownBlock = some q ∧ w.heap.size ≤ q) ∧ Hid (QK w B rq qs (keptW D.nodes (D.wa.take k))) ∧ Hid (wr.ownsRow w.heap.size 56 2 vl (keptW D.nodes (D.wa.take k)).length (dcells dWait (keptW D.nodes (D.wa.take k)) qs)) ∧ KB w wr g rq) (fun _ iv _ => tn - (intOf iv).toNat)
 case atStart => exact ⟨0, [], rA, rn, rc, Nat.zero_le _, rfl, HG, HR0, HRQ0, ħ ⟨rfl, fun j hj => absurd hj (by simp [keptW])⟩, ħ (World.ownsRow_nil _ _ _ _), KB.refl _ _ _⟩
 case round =>
  obtain ⟨k, qs, r1A, r1n, r1c, hk, rfl, HGK, HRR, HRQ, HQS, HROW, hkb⟩ := hrel
  (obtain ⟨wk, hwk⟩ : ∃ x, x = wr := ⟨_, rfl⟩); subst hwk
  obtain ⟨vl, hvl⟩ : ∃ v, v = u2 := ⟨_, rfl⟩
  rw [← hvl] at HROW ⊢
  clear hvl
  have HKB := ħ hkb
  have hsk := hkb.size
  have hglk := HGK.out.lt
  have a_0 := (HGK.out.box).2 0 _ rfl; have a_1 := (HGK.out.box).2 1 _ rfl; have a_2 := (HGK.out.box).2 2 _ rfl; have a_3 := (HGK.out.box).2 3 _ rfl; have a_4 := (HGK.out.box).2 4 _ rfl; have a_5 := (HGK.out.box).2 5 _ rfl; have a_6 := (HGK.out.box).2 6 _ rfl; have a_7 := (HGK.out.box).2 7 _ rfl; have a_8 := (HGK.out.box).2 8 _ rfl; have a_9 := (HGK.out.box).2 9 _ rfl
  clear hkb
  have hlk : (keptW D.nodes (D.wa.take k)).length ≤ 800000000 := by
   refine Nat.le_trans (List.length_filter_le _ _) ?_
   rw [List.length_take]; have := HTN.out; omega
  have hrk : (keptR D.nodes D.re (D.wa.take k)).length ≤ 800000000 := by
   refine Nat.le_trans (keptR_len _ _ _) ?_
   rw [List.length_take]; have := HRE.out; omega
  have HLK := ħ hlk
  obtain ⟨rr, hrr⟩ : ∃ x, keptR D.nodes D.re (D.wa.take k) = x := ⟨_, rfl⟩
  rw [hrr] at HRR hrk
  have HRR0 := ħ hrr
  clear hlk hrr
  by_cases hlt : k < tn
  ·have hkl : k < D.wa.length := by rw [HTN.out]; exact hlt
   have hT0 := HKB.out.own HT.out.1 HNW.out.1 HNW.out.2
   rw [HTN.out] at hT0
   obtain ⟨gw, eA, hgwB, hgwl⟩ := own_nz hT0 (by omega)
   subst eA
   obtain ⟨x, hx⟩ : ∃ x, D.wa.getD k default = x := ⟨_, rfl⟩
   obtain ⟨pk, hpk⟩ : ∃ pk, ps.getD k default = pk := ⟨_, rfl⟩
   have hxm : x ∈ D.wa := by rw [← hx]; exact getD_mem hkl
   have hin0 : OwnI w B pk x.ak := by rw [← hpk, ← hx]; exact HT.out.2.2 k hkl
   have hin : OwnI wk B pk x.ak := by rw [← hpk, ← hx]; exact HNP.out wk HKB.out k hkl
   have hsp : ∀ q, rq = some q → pk.ownBlock ≠ some q := by rw [← hpk]; exact HAP.out k hkl
   obtain ⟨Bk, ck, rfl, hik, _⟩ := hin.ints (by have := HBW.out.2 x hxm; omega)
   obtain ⟨m, hm⟩ : ∃ m, x.ak.length = m := ⟨_, rfl⟩
   rw [hm] at hpk hin hin0 hik hsp
   obtain ⟨gg, fg⟩ := own_get hT0
   have c0 : wk.cell? ⟨gw, k * 2, none⟩ = some (.int .i64 x.di) := gg _ _ (by have := dcells_at dWait HT.out.2.1 hkl (r := 0) (by show 0 < 2; omega); rw [show k * 2 = k * dWait.k + 0 from rfl, this, hpk, hx]; rfl)
   have c1 : wk.cell? ⟨gw, k * 2 + 1, none⟩ = some (.slice Bk m ck) := gg _ _ (by have := dcells_at dWait HT.out.2.1 hkl (r := 1) (by show 1 < 2; omega); rw [show k * 2 + 1 = k * dWait.k + 1 from rfl, this, hpk, hx]; rfl)
   have HXR := ħ (HRS.out x hxm)
   have HIN := ħ hin0
   have HSP := ħ hsp
   have HM := ħ hm
   have htk := take_wth D.wa k hkl
   rw [hx] at htk
   have HTK := ħ htk
   have hgwl2 : gw < wk.heap.size := hgwl
   clear hm htk gg fg hT0 hxm hpk hx hsp hin0 hin
   go_upto_region 5 with fail
   have hba : Below wk.heap.size wk (wk.alloc (.cells #[.int .i64 x.di, .slice Bk m ck] 56)) := belA
   have HAA : Hid (Blk (wk.alloc (.cells #[.int .i64 x.di, .slice Bk m ck] 56)) wk.heap.size 56 [.int .i64 x.di, .slice Bk m ck]) := ħ (Blk.new wk 56 [.int .i64 x.di, .slice Bk m ck])
   obtain ⟨g4, hg4⟩ : ∃ z, z = wk.heap.size := ⟨_, rfl⟩
   obtain ⟨wa, hwa⟩ : ∃ Z, Z = wk.alloc (.cells #[.int .i64 x.di, .slice Bk m ck] 56) := ⟨_, rfl⟩
   rw [← hwa, ← hg4] at HAA ⊢
   rw [← hwa] at hba
   have hg4g : g < g4 := by rw [hg4]; exact hglk
   have hswa : w.heap.size ≤ wa.heap.size := Nat.le_trans hsk hba.size
   have hBwa : B ≤ wa.heap.size := Nat.le_trans hB hswa
   have HGA := ħ (HGK.out.up hba)
   have HRA := ħ (HRR.out.up hba)
   have HROWA := ħ (own_up HROW.out hba)
   have HKA := ħ (HKB.out.below hba hsk)
   have HAK : Hid (IntsR wa Bk m x.ak) := ħ (hik.up hba)
   clear hwa hg4 c0 c1 hgwl hgwl2 a_0 a_1 a_2 a_3 a_4 a_5 a_6 a_7 a_8 a_9 hik hba HGK HRR HROW HKB
   obtain ⟨S0, hS0d⟩ : ∃ S0 : World → Prop, S0 = fun Q => Blk Q g4 56 [.int .i64 x.di, .slice Bk m ck] := ⟨_, rfl⟩
   obtain ⟨S, hSd⟩ : ∃ S : World → Prop, S = fun Q => Blk Q g 70 [.int .i64 D.id, .int .i64 D.nodes, .int .i64 D.next, .slice oA on oc, .int .i64 D.age, .int .i64 D.clock, .slice (some ⟨gw, 0, none⟩) tn tc, .slice eA en ec, .slice r1A r1n r1c, .slice uA un uc] ∧ S0 Q := ⟨_, rfl⟩
   have hS1 : ∀ Q, S Q → Q.cell? ⟨g, 1, none⟩ = some (.int .i64 D.nodes) := fun Q h => by rw [hSd] at h; exact h.1.box.2 1 _ rfl
   have hS8 : ∀ Q, S Q → Q.cell? ⟨g, 8, none⟩ = some (.slice r1A r1n r1c) := fun Q h => by rw [hSd] at h; exact h.1.box.2 8 _ rfl
   have hS2 : ∀ Q, S Q → S0 Q := fun Q h => by rw [hSd] at h; exact h.2
   have hSy0 : ∀ Q, S0 Q → Q.cell? ⟨g4, 0, none⟩ = some (.int .i64 x.di) := fun Q h => by rw [hS0d] at h; exact h.box.2 0 _ rfl
   have hSx0 : ∀ Q, S Q → Q.cell? ⟨g4, 0, none⟩ = some (.int .i64 x.di) := fun Q h => hSy0 Q (hS2 Q h)
   have hSx1 : ∀ Q, S Q → Q.cell? ⟨g4, 1, none⟩ = some (.slice Bk m ck) := fun Q h => by rw [hSd, hS0d] at h; exact h.2.box.2 1 _ rfl
   have hS : ∀ Q, Below wa.heap.size wa Q → S Q := fun Q hQ => by rw [hSd, hS0d]; exact ⟨HGA.out.up hQ, HAA.out.up hQ⟩
   have hSG : ∀ (Q : World) (cs : List Value) (_ : Unit) (_ : Unit), Blk Q g 70 cs → Blk Q g4 56 [.int .i64 x.di, .slice Bk m ck] → S0 Q := fun Q cs _ _ _ h => by rw [hS0d]; exact h
   clear hSd hS0d
   by_cases hmq : (m : Int) < q
   ·have hd : decide ((m : Int) < q) = true := by simpa using hmq
    have HK1 : Hid (keptW D.nodes (D.wa.take (k + 1)) = keptW D.nodes (D.wa.take k) ++ [x]) := ħ (by
     rw [HTK.out]; unfold keptW; rw [List.filter_append]
     simp [show (x.ak.length : Int) < qS D.nodes by unfold qS; rw [HM.out, HQ.out]; exact hmq])
    have HK2 : Hid (keptR D.nodes D.re (D.wa.take (k + 1)) = keptR D.nodes D.re (D.wa.take k)) := ħ (by
     rw [HTK.out, keptR_snoc, if_pos (by unfold qS; rw [HM.out, HQ.out]; exact hmq)])
    clear hmq
    go_upto_region 5 with fail
    refine wp_region_held_drew (S := S) (by kernel_rfl) (hS _ (bel_drew (Below.refl _ _))) (fun hHeld => ?_)
    have hbd : Below wa.heap.size wa wa.drew := bel_drew (Below.refl _ _)
    have hZ := hHeld
    generalize wa.drew = Z at *
    (refine wpAnyH_tk 0 (some 23) (v := ?_) rfl rfl ?_ ?_; rotate_left; (focus (intro wq hSw; clear hSw; go_simp; all_goals (with_reducible rfl))); simp only [lz])
    (refine wpAnyH_tk 1 (some 24) (v := ?_) rfl rfl ?_ ?_; rotate_left; (focus (intro wq hSw; clear hSw; go_simp; all_goals (with_reducible rfl))); simp only [lz])
    (refine wpAnyH_tk 2 (some 25) (v := ?_) rfl rfl ?_ ?_; rotate_left; (focus (intro wq hSw; clear hSw; go_simp; all_goals (with_reducible rfl))); simp only [lz])
    (refine wpAnyH_tk 3 (some 26) (v := ?_) rfl rfl ?_ ?_; rotate_left; (focus (intro wq hSw; clear hSw; go_simp; all_goals (with_reducible rfl))); simp only [lz])
    (refine wpAnyH_tk 4 (some 27) (v := ?_) rfl rfl ?_ ?_; rotate_left; (focus (intro wq hSw; have q1 := hS1 wq hSw; clear hSw; go_simp; all_goals (with_reducible rfl))); simp only [lz])
    (refine wpAnyH_tk 5 (some 28) (v := ?_) rfl rfl ?_ ?_; rotate_left; (focus (intro wq hSw; clear hSw; go_simp; all_goals (with_reducible rfl))); simp only [lz])
    (refine wpAnyH_tk 6 (some 29) (v := ?_) rfl rfl ?_ ?_; rotate_left; (focus (intro wq hSw; have q1 := hSx1 wq hSw; clear hSw; go_simp; all_goals (with_reducible rfl))); simp only [lz])
    (refine wpAnyH_tk 8 (some 31) (v := ?_) rfl rfl ?_ ?_; rotate_left; (focus (intro wq hSw; clear hSw; go_simp; all_goals (with_reducible rfl))); simp only [lz])
    (refine wpAnyH_tk 9 (some 32) (v := ?_) rfl rfl ?_ ?_; rotate_left; (focus (intro wq hSw; clear hSw; go_simp; all_goals (with_reducible rfl))); simp only [lz])
    (refine wpAnyH_tk 10 (some 33) (v := ?_) rfl rfl ?_ ?_; rotate_left; (focus (intro wq hSw; clear hSw; go_simp; all_goals (with_reducible rfl))); simp only [lz])
    (refine wpAnyH_tk 11 (some 34) (v := ?_) rfl rfl ?_ ?_; rotate_left; (focus (intro wq hSw; clear hSw; go_simp; all_goals (with_reducible rfl))); simp only [lz])
    (refine wpAnyH_tk 12 (some 35) (v := ?_) rfl rfl ?_ ?_; rotate_left; (focus (intro wq hSw; have q1 := hS1 wq hSw; clear hSw; go_simp; all_goals (with_reducible rfl))); simp only [lz])
    refine rd1 7 rfl fun K hK => ?_
    go_simp
    (go_at_call 116; refine (ref2_Count Bk m ck x.ak D.nodes _ (HAK.out.up hbd) HXR.out (by omega) hn16).mono ?_; rintro e w' ⟨rfl, rfl⟩)
    refine hK.out _ _ (hZ) (fun hHeld => ?_)
    clear hK K
    (try simp only [lz])
    refine rd1 13 rfl fun K hK => ?_
    go_simp
    (go_at_call 117; refine (ref2_Quo3 D.nodes q _ HNS.out HQ.out).mono ?_; rintro e w' ⟨rfl, rfl⟩)
    refine hK.out _ _ (hZ) (fun hHeld => ?_)
    clear hK K
    (try simp only [lz])
    (refine wpAnyH_tk 14 (some 37) (v := ?_) rfl rfl ?_ ?_; rotate_left; (focus (intro wq hSw; clear hSw; go_simp; all_goals (with_reducible rfl))); simp only [lz])
    refine wpAnyH_done (by kernel_rfl) ?_ _
    have HZB := ħ hbd
    clear hS hS1 hS2 hS8 hSx0 hSx1 hSG hHeld hZ
    have hgz := HGA.out.up hbd
    have haz := HAA.out.up hbd
    have hgl := hgz.lt
    have hal := haz.lt
    have b_0 := (haz.box).2 0 _ rfl; have b_1 := (haz.box).2 1 _ rfl
    have e_0 := (hgz.box).2 0 _ rfl; have e_1 := (hgz.box).2 1 _ rfl; have e_2 := (hgz.box).2 2 _ rfl; have e_3 := (hgz.box).2 3 _ rfl; have e_4 := (hgz.box).2 4 _ rfl; have e_5 := (hgz.box).2 5 _ rfl; have e_6 := (hgz.box).2 6 _ rfl; have e_7 := (hgz.box).2 7 _ rfl; have e_8 := (hgz.box).2 8 _ rfl; have e_9 := (hgz.box).2 9 _ rfl
    have hBX : BoxR (Z.alloc (.cells #[.int .i64 x.di, .slice Bk m ck] 56)) Z.heap.size [.int .i64 x.di, .slice Bk m ck] := BoxR.new Z [.int .i64 x.di, .slice Bk m ck] 56
    have HBX := ħ hBX
    have hba2 : Below wa.heap.size wa (Z.alloc (.cells #[.int .i64 x.di, .slice Bk m ck] 56)) := bel_alloc hbd
    have HBA2 := ħ hba2
    have hsz2 : w.heap.size ≤ (Z.alloc (.cells #[.int .i64 x.di, .slice Bk m ck] 56)).heap.size := Nat.le_trans hswa hba2.size
    clear hgz haz hBX hba2
    go_wp2_with (at_builtin; refine wpList_appWt rfl (.tmp 38) (.tmp 40) rfl rfl w.heap.size vl _ _ rfl (own_up HROWA.out HBA2.out) _ [.int .i64 x.di, .slice Bk m ck] rfl rfl (fun j u hu => HBX.out.2 j u hu) (by simp [Value.oneCell']) (by have := HLK.out; omega) hsz2 ?_; intro v5 w5 hown5 hg5 hb5)
    have hG5 : Blk w5 g 70 [.int .i64 D.id, .int .i64 D.nodes, .int .i64 D.next, .slice oA on oc, .int .i64 D.age, .int .i64 D.clock, .slice (some ⟨gw, 0, none⟩) tn tc, .slice eA en ec, .slice r1A r1n r1c, .slice uA un uc] := (HGA.out.up HBA2.out).below hb5 hgw
    have ho5 : OwnI w5 B (.slice r1A r1n r1c) rr := own_farT (show World.ownsRow _ B 3 1 _ _ _ from HRA.out.up HBA2.out) (own_up HROWA.out HBA2.out) (by decide) hg5
    have hkb5 := (HKA.out.below HBA2.out hswa).below hb5 (Nat.le_refl _)
    (first | (go_round; (case rel => exact ⟨k + 1, qs ++ [.slice Bk m ck], r1A, r1n, r1c, by omega, by go_num, ħ hG5, by (rw [HK2.out, HRR0.out]; exact ħ ho5), HRQ, by (rw [HK1.out]; exact ħ (qk_snoc HQS.out ⟨HIN.out, HSP.out⟩)), by (rw [HK1.out]; exact ħ (row_snoc HQS.out.1 hown5)), hkb5⟩); (case measure => (simp [intOf] <;> omega))) | (go_roundw; (case rel => exact ⟨k + 1, qs ++ [.slice Bk m ck], r1A, r1n, r1c, by omega, by go_num, ħ hG5, by (rw [HK2.out, HRR0.out]; exact ħ ho5), HRQ, by (rw [HK1.out]; exact ħ (qk_snoc HQS.out ⟨HIN.out, HSP.out⟩)), by (rw [HK1.out]; exact ħ (row_snoc HQS.out.1 hown5)), hkb5⟩); (case measure => (simp [intOf] <;> omega))) | (refine ⟨?_, by simp [intOf] <;> omega⟩; (repeat apply Exists.intro); refine ⟨?rel, ?fr⟩; (case fr => ((repeat' apply And.intro) <;> rfl)); (case rel => exact ⟨k + 1, qs ++ [.slice Bk m ck], r1A, r1n, r1c, by omega, by go_num, ħ hG5, by (rw [HK2.out, HRR0.out]; exact ħ ho5), HRQ, by (rw [HK1.out]; exact ħ (qk_snoc HQS.out ⟨HIN.out, HSP.out⟩)), by (rw [HK1.out]; exact ħ (row_snoc HQS.out.1 hown5)), hkb5⟩)))
   ·have hd : decide ((m : Int) < q) = false := by simpa using hmq
    have HK1 : Hid (keptW D.nodes (D.wa.take (k + 1)) = keptW D.nodes (D.wa.take k)) := ħ (by
     rw [HTK.out]; unfold keptW; rw [List.filter_append]
     simp [show ¬ (x.ak.length : Int) < qS D.nodes by unfold qS; rw [HM.out, HQ.out]; exact hmq])
    obtain ⟨_, _, e2, hr2, _⟩ := HRA.out.ints (by omega)
    injection e2 with e2a e2b e2c
    rw [← e2a, ← e2b] at hr2
    have HR2 := ħ hr2
    obtain ⟨y, hy⟩ : ∃ y, memS rr x.di = y := ⟨_, rfl⟩
    have hI := inS_ltC rr x.di y hy
    have HKQ : Hid (keptR D.nodes D.re (D.wa.take (k + 1)) = if y then rr else rr ++ [x.di]) := ħ (by
     rw [HTK.out, keptR_snoc, if_neg (by unfold qS; rw [HM.out, HQ.out]; exact hmq), HRR0.out, hy])
    have hrlen : rr.length ≤ 900000000 := by omega
    clear hr2 e2a e2b e2c hmq hy
    go_upto_region 5 with fail
    refine wp_region_held_drew (S := S) (by kernel_rfl) (hS _ (bel_drew (Below.refl _ _))) (fun hHeld => ?_)
    have hbd : Below wa.heap.size wa wa.drew := bel_drew (Below.refl _ _)
    have hZ := hHeld
    generalize wa.drew = Z at *
    (refine wpAnyH_tk 0 (some 23) (v := ?_) rfl rfl ?_ ?_; rotate_left; (focus (intro wq hSw; clear hSw; go_simp; all_goals (with_reducible rfl))); simp only [lz])
    (refine wpAnyH_tk 1 (some 24) (v := ?_) rfl rfl ?_ ?_; rotate_left; (focus (intro wq hSw; clear hSw; go_simp; all_goals (with_reducible rfl))); simp only [lz])
    (refine wpAnyH_tk 2 (some 25) (v := ?_) rfl rfl ?_ ?_; rotate_left; (focus (intro wq hSw; clear hSw; go_simp; all_goals (with_reducible rfl))); simp only [lz])
    (refine wpAnyH_tk 3 (some 26) (v := ?_) rfl rfl ?_ ?_; rotate_left; (focus (intro wq hSw; clear hSw; go_simp; all_goals (with_reducible rfl))); simp only [lz])
    (refine wpAnyH_tk 4 (some 27) (v := ?_) rfl rfl ?_ ?_; rotate_left; (focus (intro wq hSw; have q1 := hS1 wq hSw; clear hSw; go_simp; all_goals (with_reducible rfl))); simp only [lz])
    (refine wpAnyH_tk 5 (some 28) (v := ?_) rfl rfl ?_ ?_; rotate_left; (focus (intro wq hSw; clear hSw; go_simp; all_goals (with_reducible rfl))); simp only [lz])
    (refine wpAnyH_tk 6 (some 29) (v := ?_) rfl rfl ?_ ?_; rotate_left; (focus (intro wq hSw; have q1 := hSx1 wq hSw; clear hSw; go_simp; all_goals (with_reducible rfl))); simp only [lz])
    (refine wpAnyH_tk 8 (some 31) (v := ?_) rfl rfl ?_ ?_; rotate_left; (focus (intro wq hSw; clear hSw; go_simp; all_goals (with_reducible rfl))); simp only [lz])
    (refine wpAnyH_tk 9 (some 32) (v := ?_) rfl rfl ?_ ?_; rotate_left; (focus (intro wq hSw; clear hSw; go_simp; all_goals (with_reducible rfl))); simp only [lz])
    (refine wpAnyH_tk 10 (some 33) (v := ?_) rfl rfl ?_ ?_; rotate_left; (focus (intro wq hSw; clear hSw; go_simp; all_goals (with_reducible rfl))); simp only [lz])
    (refine wpAnyH_tk 11 (some 34) (v := ?_) rfl rfl ?_ ?_; rotate_left; (focus (intro wq hSw; clear hSw; go_simp; all_goals (with_reducible rfl))); simp only [lz])
    (refine wpAnyH_tk 12 (some 35) (v := ?_) rfl rfl ?_ ?_; rotate_left; (focus (intro wq hSw; have q1 := hS1 wq hSw; clear hSw; go_simp; all_goals (with_reducible rfl))); simp only [lz])
    refine rd1 7 rfl fun K hK => ?_
    go_simp
    (go_at_call 116; refine (ref2_Count Bk m ck x.ak D.nodes _ (HAK.out.up hbd) HXR.out (by omega) hn16).mono ?_; rintro e w' ⟨rfl, rfl⟩)
    refine hK.out _ _ (hZ) (fun hHeld => ?_)
    clear hK K
    (try simp only [lz])
    refine rd1 13 rfl fun K hK => ?_
    go_simp
    (go_at_call 117; refine (ref2_Quo3 D.nodes q _ HNS.out HQ.out).mono ?_; rintro e w' ⟨rfl, rfl⟩)
    refine hK.out _ _ (hZ) (fun hHeld => ?_)
    clear hK K
    (try simp only [lz])
    (refine wpAnyH_tk 14 (some 37) (v := ?_) rfl rfl ?_ ?_; rotate_left; (focus (intro wq hSw; clear hSw; go_simp; all_goals (with_reducible rfl))); simp only [lz])
    refine wpAnyH_done (by kernel_rfl) ?_ _
    cases y
    ·have HK2 : Hid (keptR D.nodes D.re (D.wa.take (k + 1)) = rr ++ [x.di]) := ħ (by rw [HKQ.out]; rfl)
     clear hHeld
     go_upto_region 7 with fail
     refine wp_region_held_drew (S := S) (by kernel_rfl) (hS _ (bel_trans hbd (bel_drew (Below.refl _ _)))) (fun hHeld => ?_)
     have hbd7 : Below wa.heap.size wa Z.drew := bel_trans hbd (bel_drew (Below.refl _ _))
     have hZ7 := hHeld
     clear hZ
     generalize Z.drew = Z7 at *
     (refine wpAnyH_tk 0 (some 42) (v := ?_) rfl rfl ?_ ?_; rotate_left; (focus (intro wq hSw; clear hSw; go_simp; all_goals (with_reducible rfl))); simp only [lz])
     (refine wpAnyH_tk 1 (some 43) (v := ?_) rfl rfl ?_ ?_; rotate_left; (focus (intro wq hSw; clear hSw; go_simp; all_goals (with_reducible rfl))); simp only [lz])
     (refine wpAnyH_tk 2 (some 44) (v := ?_) rfl rfl ?_ ?_; rotate_left; (focus (intro wq hSw; clear hSw; go_simp; all_goals (with_reducible rfl))); simp only [lz])
     (refine wpAnyH_tk 3 (some 45) (v := ?_) rfl rfl ?_ ?_; rotate_left; (focus (intro wq hSw; clear hSw; go_simp; all_goals (with_reducible rfl))); simp only [lz])
     (refine wpAnyH_tk 4 (some 46) (v := ?_) rfl rfl ?_ ?_; rotate_left; (focus (intro wq hSw; have q1 := hS8 wq hSw; clear hSw; go_simp; all_goals (with_reducible rfl))); simp only [lz])
     (refine wpAnyH_tk 5 (some 47) (v := ?_) rfl rfl ?_ ?_; rotate_left; (focus (intro wq hSw; clear hSw; go_simp; all_goals (with_reducible rfl))); simp only [lz])
     (refine wpAnyH_tk 6 (some 48) (v := ?_) rfl rfl ?_ ?_; rotate_left; (focus (intro wq hSw; have q1 := hSx0 wq hSw; clear hSw; go_simp; all_goals (with_reducible rfl))); simp only [lz])
     refine rd1 7 rfl fun K hK => ?_
     go_simp
     (go_at_call 70; refine (ref0_In r1A r1n r1c rr x.di _ (HR2.out.up hbd7)).mono ?_; rintro e w' ⟨rfl, rfl⟩)
     refine hK.out _ _ (hZ7) (fun hHeld => ?_)
     clear hK K
     (try simp only [lz])
     (refine wpAnyH_tk 8 (some 50) (v := ?_) rfl rfl ?_ ?_; rotate_left; (focus (intro wq hSw; clear hSw; go_simp; all_goals (with_reducible rfl))); simp only [lz])
     refine wpAnyH_done (by kernel_rfl) ?_ _
     clear hHeld hZ7
     go_upto_region 8 with fail
     refine wp_region_held_drew (S := fun Q => S0 Q) (by kernel_rfl) (hS2 _ (hS _ (bel_trans hbd7 (bel_drew (Below.refl _ _))))) (fun hHeld => ?_)
     have hbd8 : Below wa.heap.size wa Z7.drew := bel_trans hbd7 (bel_drew (Below.refl _ _))
     generalize Z7.drew = Z8 at *
     (refine wpAnyH_tk 0 (some 51) (v := ?_) rfl rfl ?_ ?_; rotate_left; (focus (intro wq hSw; clear hSw; go_simp; all_goals (with_reducible rfl))); simp only [lz])
     (refine wpAnyH_tk 1 (some 52) (v := ?_) rfl rfl ?_ ?_; rotate_left; (focus (intro wq hSw; clear hSw; go_simp; all_goals (with_reducible rfl))); simp only [lz])
     (refine wpAnyH_tk 2 (some 53) (v := ?_) rfl rfl ?_ ?_; rotate_left; (focus (intro wq hSw; clear hSw; go_simp; all_goals (with_reducible rfl))); simp only [lz])
     (refine wpAnyH_tk 3 (some 54) (v := ?_) rfl rfl ?_ ?_; rotate_left; (focus (intro wq hSw; clear hSw; go_simp; all_goals (with_reducible rfl))); simp only [lz])
     (refine wpAnyH_tk 4 (some 55) (v := ?_) rfl rfl ?_ ?_; rotate_left; (focus (intro wq hSw; clear hSw; go_simp; all_goals (with_reducible rfl))); simp only [lz])
     (refine wpAnyH_tk 6 (some 57) (v := ?_) rfl rfl ?_ ?_; rotate_left; (focus (intro wq hSw; clear hSw; go_simp; all_goals (with_reducible rfl))); simp only [lz])
     (refine wpAnyH_tk 7 (some 58) (v := ?_) rfl rfl ?_ ?_; rotate_left; (focus (intro wq hSw; have q1 := hSy0 wq hSw; clear hSw; go_simp; all_goals (with_reducible rfl))); simp only [lz])
     refine wpAnyH_ready (rs := [5, 8]) (by kernel_rfl) (by simp) ?_
     refine AllReadyH.cons (o := _) rfl (fun K hK => ?_) (AllReadyH.cons (o := _) rfl (fun K hK => ?_) AllReadyH.nil)
     ·skip
      have q9 := (HGA.out.up (hbd8)).box.2 8 _ rfl
      have q8 := (HGA.out.up (hbd8)).lt
      go_simp
      clear q9 q8
      refine hK.out _ _ (hS2 _ (hS _ (hbd8))) (fun hHeld => ?_)
      clear hK K
      (try simp only [lz])
      refine rd1 8 rfl fun K hK => ?_
      go_simp
      obtain ⟨NB, hNB⟩ : ∃ N, N = Z8.heap.size := ⟨_, rfl⟩
      obtain ⟨ZB, hZB⟩ : ∃ Zq : World, Zq = Z8.alloc (.cells #[.int .i64 x.di] 3) := ⟨_, rfl⟩
      rw [← hNB, ← hZB]
      have hkB : BoxR ZB NB [.int .i64 x.di] := by rw [hZB, hNB]; exact BoxR.new _ [.int .i64 x.di] 3
      have hbB : Below Z8.heap.size Z8 ZB := by rw [hZB]; exact bel_alloc (Below.refl _ _)
      have hbB2 := bel_trans (hbd8) hbB
      clear hNB hZB
      refine hK.out _ _ (hS2 _ (hS _ hbB2)) (fun hHeld => ?_)
      clear hK K
      (try simp only [lz])
      refine rd1 9 rfl fun K hK => ?_
      refine step_app1 rfl (.tmp 56) (.tmp 59) rfl rfl B (.slice r1A r1n r1c) rr (by simp [Act.eval, Act.put]) (HRA.out.up hbB2) NB x.di (by simp [Act.eval, Act.put]) (hkB.2 0 _ rfl) hrlen (Nat.le_trans hBwa hbB2.size) ?_
      intro v7 w7 hown7 hg7 hb7 hat7
      obtain ⟨A7, c7, e7, _⟩ := hown7.ints (by simp; omega)
      obtain ⟨n7, hn7⟩ : ∃ q, (rr ++ [x.di]).length = q := ⟨_, rfl⟩
      rw [hn7] at e7
      subst e7
      have hG7 : Blk w7 g 70 [.int .i64 D.id, .int .i64 D.nodes, .int .i64 D.next, .slice oA on oc, .int .i64 D.age, .int .i64 D.clock, .slice (some ⟨gw, 0, none⟩) tn tc, .slice eA en ec, .slice r1A r1n r1c, .slice uA un uc] := blk_grownI (HGA.out.up hbB2) (show World.ownsRow _ B 3 1 (.slice r1A r1n r1c) _ _ from HRA.out.up hbB2) (by decide) hg7
      have hA7 : Blk w7 g4 56 [.int .i64 x.di, .slice Bk m ck] := blk_grownI (HAA.out.up hbB2) (show World.ownsRow _ B 3 1 (.slice r1A r1n r1c) _ _ from HRA.out.up hbB2) (by decide) hg7
      have hkb7 := (HKA.out.below hbB2 hswa).grown hg7 (by rcases HRQ.out with h | ⟨q, h1, h2⟩; exact .inl h; exact .inr ⟨q, h1, h2⟩)
      refine hK.out _ _ (hSG _ _ () () hG7 hA7) (fun hHeld => ?_)
      clear hK K
      (try simp only [lz])
      (refine wpAnyH_tk 10 (some 61) (v := ?_) rfl rfl ?_ ?_; rotate_left; (focus (intro wq hSw; clear hSw; go_simp; all_goals (with_reducible rfl))); simp only [lz])
      (refine wpAnyH_tk 11 (some 62) (v := ?_) rfl rfl ?_ ?_; rotate_left; (focus (intro wq hSw; clear hSw; go_simp; all_goals (with_reducible rfl))); simp only [lz])
      (refine wpAnyH_tk 12 (some 63) (v := ?_) rfl rfl ?_ ?_; rotate_left; (focus (intro wq hSw; clear hSw; go_simp; all_goals (with_reducible rfl))); simp only [lz])
      refine rd1 13 rfl fun K hK => ?_
      have qf := hG7.frozen
      have ql := hG7.lt
      have q9 := hG7.box.2 8 _ rfl
      go_simp
      clear qf ql q9
      have hG8 := hG7.set_ 8 (.slice A7 n7 c7)
      have hA8 := hA7.far (p := ⟨g, 8, none⟩) (by show g4 ≠ g; omega) (.slice A7 n7 c7)
      have htg := TKeep.setg (o := 8) (u := .slice A7 n7 c7) hG7
      refine hK.out _ _ (hSG _ _ () () hG8 hA8) (fun hHeld => ?_)
      clear hK K
      (try simp only [lz])
      refine wpAnyH_done (by kernel_rfl) ?_ _
      have hrow8 := own_tk (own_farT (own_up HROWA.out hbB2) (show World.ownsRow _ B 3 1 (.slice r1A r1n r1c) _ _ from HRA.out.up hbB2) (by decide) hg7) htg (by decide)
      have ho8 : OwnI _ B _ _ := own_tk (show World.ownsRow _ B 3 1 _ _ _ from hown7) htg (by decide)
      have hkb8 := hkb7.setg (o := 8) (u := .slice A7 n7 c7)
      have hrq8 : Value.ownBlock (.slice A7 n7 c7) = rq ∨ ∃ q, Value.ownBlock (.slice A7 n7 c7) = some q ∧ w.heap.size ≤ q := by (rcases hat7 with h | h; (rw [h]; exact HRQ.out); exact .inr ⟨_, h, Nat.le_trans hswa hbB2.size⟩)
      have HG8 := ħ hG8
      have HROW8 := ħ hrow8
      have HO8 := ħ ho8
      have HKB8 := ħ hkb8
      have HRQ8 := ħ hrq8
      clear hG7 hA7 hG8 hA8 htg hown7 hg7 hb7 hat7 hbB hbB2 hkB hHeld hrow8 ho8 hkb7 hkb8 hrq8 hS hS1 hS2 hS8 hSx0 hSx1 hSG
      go_wp2_with fail
      (first | (go_round; (case rel => exact ⟨k + 1, qs, A7, n7, c7, by omega, by go_num, HG8, by (rw [HK2.out]; exact HO8), HRQ8, by (rw [HK1.out]; exact HQS), by (rw [HK1.out]; exact HROW8), HKB8.out⟩); (case measure => (simp [intOf] <;> omega))) | (go_roundw; (case rel => exact ⟨k + 1, qs, A7, n7, c7, by omega, by go_num, HG8, by (rw [HK2.out]; exact HO8), HRQ8, by (rw [HK1.out]; exact HQS), by (rw [HK1.out]; exact HROW8), HKB8.out⟩); (case measure => (simp [intOf] <;> omega))) | (refine ⟨?_, by simp [intOf] <;> omega⟩; (repeat apply Exists.intro); refine ⟨?rel, ?fr⟩; (case fr => ((repeat' apply And.intro) <;> rfl)); (case rel => exact ⟨k + 1, qs, A7, n7, c7, by omega, by go_num, HG8, by (rw [HK2.out]; exact HO8), HRQ8, by (rw [HK1.out]; exact HQS), by (rw [HK1.out]; exact HROW8), HKB8.out⟩)))
     ·skip
      go_simp
      obtain ⟨NB, hNB⟩ : ∃ N, N = Z8.heap.size := ⟨_, rfl⟩
      obtain ⟨ZB, hZB⟩ : ∃ Zq : World, Zq = Z8.alloc (.cells #[.int .i64 x.di] 3) := ⟨_, rfl⟩
      rw [← hNB, ← hZB]
      have hkB : BoxR ZB NB [.int .i64 x.di] := by rw [hZB, hNB]; exact BoxR.new _ [.int .i64 x.di] 3
      have hbB : Below Z8.heap.size Z8 ZB := by rw [hZB]; exact bel_alloc (Below.refl _ _)
      have hbB2 := bel_trans (hbd8) hbB
      clear hNB hZB
      refine hK.out _ _ (hS2 _ (hS _ hbB2)) (fun hHeld => ?_)
      clear hK K
      (try simp only [lz])
      refine rd1 5 rfl fun K hK => ?_
      have q9 := (HGA.out.up (hbB2)).box.2 8 _ rfl
      have q8 := (HGA.out.up (hbB2)).lt
      go_simp
      clear q9 q8
      refine hK.out _ _ (hS2 _ (hS _ (hbB2))) (fun hHeld => ?_)
      clear hK K
      (try simp only [lz])
      refine rd1 9 rfl fun K hK => ?_
      refine step_app1 rfl (.tmp 56) (.tmp 59) rfl rfl B (.slice r1A r1n r1c) rr (by simp [Act.eval, Act.put]) (HRA.out.up hbB2) NB x.di (by simp [Act.eval, Act.put]) (hkB.2 0 _ rfl) hrlen (Nat.le_trans hBwa hbB2.size) ?_
      intro v7 w7 hown7 hg7 hb7 hat7
      obtain ⟨A7, c7, e7, _⟩ := hown7.ints (by simp; omega)
      obtain ⟨n7, hn7⟩ : ∃ q, (rr ++ [x.di]).length = q := ⟨_, rfl⟩
      rw [hn7] at e7
      subst e7
      have hG7 : Blk w7 g 70 [.int .i64 D.id, .int .i64 D.nodes, .int .i64 D.next, .slice oA on oc, .int .i64 D.age, .int .i64 D.clock, .slice (some ⟨gw, 0, none⟩) tn tc, .slice eA en ec, .slice r1A r1n r1c, .slice uA un uc] := blk_grownI (HGA.out.up hbB2) (show World.ownsRow _ B 3 1 (.slice r1A r1n r1c) _ _ from HRA.out.up hbB2) (by decide) hg7
      have hA7 : Blk w7 g4 56 [.int .i64 x.di, .slice Bk m ck] := blk_grownI (HAA.out.up hbB2) (show World.ownsRow _ B 3 1 (.slice r1A r1n r1c) _ _ from HRA.out.up hbB2) (by decide) hg7
      have hkb7 := (HKA.out.below hbB2 hswa).grown hg7 (by rcases HRQ.out with h | ⟨q, h1, h2⟩; exact .inl h; exact .inr ⟨q, h1, h2⟩)
      refine hK.out _ _ (hSG _ _ () () hG7 hA7) (fun hHeld => ?_)
      clear hK K
      (try simp only [lz])
      (refine wpAnyH_tk 10 (some 61) (v := ?_) rfl rfl ?_ ?_; rotate_left; (focus (intro wq hSw; clear hSw; go_simp; all_goals (with_reducible rfl))); simp only [lz])
      (refine wpAnyH_tk 11 (some 62) (v := ?_) rfl rfl ?_ ?_; rotate_left; (focus (intro wq hSw; clear hSw; go_simp; all_goals (with_reducible rfl))); simp only [lz])
      (refine wpAnyH_tk 12 (some 63) (v := ?_) rfl rfl ?_ ?_; rotate_left; (focus (intro wq hSw; clear hSw; go_simp; all_goals (with_reducible rfl))); simp only [lz])
      refine rd1 13 rfl fun K hK => ?_
      have qf := hG7.frozen
      have ql := hG7.lt
      have q9 := hG7.box.2 8 _ rfl
      go_simp
      clear qf ql q9
      have hG8 := hG7.set_ 8 (.slice A7 n7 c7)
      have hA8 := hA7.far (p := ⟨g, 8, none⟩) (by show g4 ≠ g; omega) (.slice A7 n7 c7)
      have htg := TKeep.setg (o := 8) (u := .slice A7 n7 c7) hG7
      refine hK.out _ _ (hSG _ _ () () hG8 hA8) (fun hHeld => ?_)
      clear hK K
      (try simp only [lz])
      refine wpAnyH_done (by kernel_rfl) ?_ _
      have hrow8 := own_tk (own_farT (own_up HROWA.out hbB2) (show World.ownsRow _ B 3 1 (.slice r1A r1n r1c) _ _ from HRA.out.up hbB2) (by decide) hg7) htg (by decide)
      have ho8 : OwnI _ B _ _ := own_tk (show World.ownsRow _ B 3 1 _ _ _ from hown7) htg (by decide)
      have hkb8 := hkb7.setg (o := 8) (u := .slice A7 n7 c7)
      have hrq8 : Value.ownBlock (.slice A7 n7 c7) = rq ∨ ∃ q, Value.ownBlock (.slice A7 n7 c7) = some q ∧ w.heap.size ≤ q := by (rcases hat7 with h | h; (rw [h]; exact HRQ.out); exact .inr ⟨_, h, Nat.le_trans hswa hbB2.size⟩)
      have HG8 := ħ hG8
      have HROW8 := ħ hrow8
      have HO8 := ħ ho8
      have HKB8 := ħ hkb8
      have HRQ8 := ħ hrq8
      clear hG7 hA7 hG8 hA8 htg hown7 hg7 hb7 hat7 hbB hbB2 hkB hHeld hrow8 ho8 hkb7 hkb8 hrq8 hS hS1 hS2 hS8 hSx0 hSx1 hSG
      go_wp2_with fail
      (first | (go_round; (case rel => exact ⟨k + 1, qs, A7, n7, c7, by omega, by go_num, HG8, by (rw [HK2.out]; exact HO8), HRQ8, by (rw [HK1.out]; exact HQS), by (rw [HK1.out]; exact HROW8), HKB8.out⟩); (case measure => (simp [intOf] <;> omega))) | (go_roundw; (case rel => exact ⟨k + 1, qs, A7, n7, c7, by omega, by go_num, HG8, by (rw [HK2.out]; exact HO8), HRQ8, by (rw [HK1.out]; exact HQS), by (rw [HK1.out]; exact HROW8), HKB8.out⟩); (case measure => (simp [intOf] <;> omega))) | (refine ⟨?_, by simp [intOf] <;> omega⟩; (repeat apply Exists.intro); refine ⟨?rel, ?fr⟩; (case fr => ((repeat' apply And.intro) <;> rfl)); (case rel => exact ⟨k + 1, qs, A7, n7, c7, by omega, by go_num, HG8, by (rw [HK2.out]; exact HO8), HRQ8, by (rw [HK1.out]; exact HQS), by (rw [HK1.out]; exact HROW8), HKB8.out⟩)))
    ·have HK2 : Hid (keptR D.nodes D.re (D.wa.take (k + 1)) = keptR D.nodes D.re (D.wa.take k)) := ħ (by rw [HKQ.out, HRR0.out]; rfl)
     clear hHeld
     go_upto_region 7 with fail
     refine wp_region_held_drew (S := S) (by kernel_rfl) (hS _ (bel_trans hbd (bel_drew (Below.refl _ _)))) (fun hHeld => ?_)
     have hbd7 : Below wa.heap.size wa Z.drew := bel_trans hbd (bel_drew (Below.refl _ _))
     have hZ7 := hHeld
     clear hZ
     generalize Z.drew = Z7 at *
     (refine wpAnyH_tk 0 (some 42) (v := ?_) rfl rfl ?_ ?_; rotate_left; (focus (intro wq hSw; clear hSw; go_simp; all_goals (with_reducible rfl))); simp only [lz])
     (refine wpAnyH_tk 1 (some 43) (v := ?_) rfl rfl ?_ ?_; rotate_left; (focus (intro wq hSw; clear hSw; go_simp; all_goals (with_reducible rfl))); simp only [lz])
     (refine wpAnyH_tk 2 (some 44) (v := ?_) rfl rfl ?_ ?_; rotate_left; (focus (intro wq hSw; clear hSw; go_simp; all_goals (with_reducible rfl))); simp only [lz])
     (refine wpAnyH_tk 3 (some 45) (v := ?_) rfl rfl ?_ ?_; rotate_left; (focus (intro wq hSw; clear hSw; go_simp; all_goals (with_reducible rfl))); simp only [lz])
     (refine wpAnyH_tk 4 (some 46) (v := ?_) rfl rfl ?_ ?_; rotate_left; (focus (intro wq hSw; have q1 := hS8 wq hSw; clear hSw; go_simp; all_goals (with_reducible rfl))); simp only [lz])
     (refine wpAnyH_tk 5 (some 47) (v := ?_) rfl rfl ?_ ?_; rotate_left; (focus (intro wq hSw; clear hSw; go_simp; all_goals (with_reducible rfl))); simp only [lz])
     (refine wpAnyH_tk 6 (some 48) (v := ?_) rfl rfl ?_ ?_; rotate_left; (focus (intro wq hSw; have q1 := hSx0 wq hSw; clear hSw; go_simp; all_goals (with_reducible rfl))); simp only [lz])
     refine rd1 7 rfl fun K hK => ?_
     go_simp
     (go_at_call 70; refine (ref0_In r1A r1n r1c rr x.di _ (HR2.out.up hbd7)).mono ?_; rintro e w' ⟨rfl, rfl⟩)
     refine hK.out _ _ (hZ7) (fun hHeld => ?_)
     clear hK K
     (try simp only [lz])
     (refine wpAnyH_tk 8 (some 50) (v := ?_) rfl rfl ?_ ?_; rotate_left; (focus (intro wq hSw; clear hSw; go_simp; all_goals (with_reducible rfl))); simp only [lz])
     refine wpAnyH_done (by kernel_rfl) ?_ _
     have HZB := ħ hbd7
     clear hS hS1 hS2 hS8 hSx0 hSx1 hSG hHeld hZ7
     go_wp2_with fail
     (first | (go_round; (case rel => exact ⟨k + 1, qs, r1A, r1n, r1c, by omega, by go_num, ħ (HGA.out.up HZB.out), by (rw [HK2.out, HRR0.out]; exact ħ (HRA.out.up HZB.out)), HRQ, by (rw [HK1.out]; exact HQS), by (rw [HK1.out]; exact ħ (own_up HROWA.out HZB.out)), HKA.out.below HZB.out hswa⟩); (case measure => (simp [intOf] <;> omega))) | (go_roundw; (case rel => exact ⟨k + 1, qs, r1A, r1n, r1c, by omega, by go_num, ħ (HGA.out.up HZB.out), by (rw [HK2.out, HRR0.out]; exact ħ (HRA.out.up HZB.out)), HRQ, by (rw [HK1.out]; exact HQS), by (rw [HK1.out]; exact ħ (own_up HROWA.out HZB.out)), HKA.out.below HZB.out hswa⟩); (case measure => (simp [intOf] <;> omega))) | (refine ⟨?_, by simp [intOf] <;> omega⟩; (repeat apply Exists.intro); refine ⟨?rel, ?fr⟩; (case fr => ((repeat' apply And.intro) <;> rfl)); (case rel => exact ⟨k + 1, qs, r1A, r1n, r1c, by omega, by go_num, ħ (HGA.out.up HZB.out), by (rw [HK2.out, HRR0.out]; exact ħ (HRA.out.up HZB.out)), HRQ, by (rw [HK1.out]; exact HQS), by (rw [HK1.out]; exact ħ (own_up HROWA.out HZB.out)), HKA.out.below HZB.out hswa⟩)))
  ·obtain rfl : k = tn := by omega
   have hd1 : decide ((k : Int) < (k : Int)) = false := by simp
   have htake : D.wa.take k = D.wa := by rw [← HTN.out, List.take_length]
   rw [htake] at HQS HROW HRR0
   have hfk := HGK.out.frozen
   have HN1 := ħ HQS.out.1
   obtain ⟨A1, n1, c1, e1⟩ : ∃ A n c, vl = .slice A n c := by
    rcases own_shape HROW.out with ⟨e, _⟩ | ⟨q1, c1, e, _⟩
    ·exact ⟨_, _, _, e⟩
    ·exact ⟨_, _, _, e⟩
   subst e1
   have hG6 := HGK.out.set_ 6 (.slice A1 n1 c1)
   have htg := TKeep.setg (o := 6) (u := .slice A1 n1 c1) HGK.out
   have hW6 : OwnWs (wk.setCell ⟨g, 6, none⟩ (.slice A1 n1 c1)) B (.slice A1 n1 c1) (keptW D.nodes D.wa) := ⟨qs, own_mono (own_tk HROW.out htg (by decide)) hB, HQS.out.1, fun j hj => own_tk (HKB.out.own (show World.ownsRow _ B 3 1 _ _ _ from (HQS.out.2 j hj).1) (own_neT (show World.ownsRow _ B 3 1 _ _ _ from (HQS.out.2 j hj).1) HG.out (by decide)) (HQS.out.2 j hj).2) htg (by decide)⟩
   have hR6 : OwnI (wk.setCell ⟨g, 6, none⟩ (.slice A1 n1 c1)) B (.slice r1A r1n r1c) (keptR D.nodes D.re D.wa) := by rw [HRR0.out]; exact own_tk (show World.ownsRow _ B 3 1 _ _ _ from HRR.out) htg (by decide)
   have HG6 := ħ hG6
   have HW6 := ħ hW6
   have HR6 := ħ hR6
   have hkb6 := HKB.out.setg (o := 6) (u := .slice A1 n1 c1)
   clear hG6 htg hW6 hR6 htake
   go_wp2_with fail
   go_end0
   exact ⟨A1, n1, c1, r1A, r1n, r1c, rfl, HG6.out, hkb6, HW6.out, HR6.out⟩
open Go.RowKit

set_option maxHeartbeats 4000000 in
theorem ref0_CopyWorker3 (P : WorkP) (D : WorkD) (w : World) (h : WorkR w P D) (hs : BigD D) :
  Calls Tryz.prog 17 #[P.val D] w fun e w' => ∃ P', e = .returned (P'.val D) ∧ WorkO w' w.heap.size P' D ∧ (∃ ps, OwnT dWait w' w.heap.size P'.wa.v ps D.wa ∧ ApartW ps D.wa P'.re.v.ownBlock) ∧ Below w.heap.size w w' := by
 obtain ⟨⟨oA, on, oc⟩, ⟨tA, tn, tc⟩, ⟨eA, en, ec⟩, ⟨rA, rn, rc⟩⟩ := P
 have HO : Hid (TxsR w oA on D.op) := ħ h.op
 have HT : Hid (WaitsR w tA tn D.wa) := ħ h.wa
 have HE : Hid (HeldsR w eA en D.he) := ħ h.he
 have HR : Hid (IntsR w rA rn D.re) := ħ h.re
 have hon : on ≤ 800000000 := by rw [← HO.out.1]; exact hs.op
 have hrn : rn ≤ 800000000 := by rw [← HR.out.1]; exact hs.re
 have HS := ħ hs
 clear h hs
 show Calls Tryz.prog 17 #[.agg #[.int .i64 D.id, .int .i64 D.nodes, .int .i64 D.next, .slice oA on oc, .int .i64 D.age, .int .i64 D.clock, .slice tA tn tc, .slice eA en ec, .slice rA rn rc]] w _
 go_enter Tryz.func17, Tryz.ntmps17
 go_wp2_with fail
 refine (ref0_CopyTxs oA on oc D.op _ (HO.out.up (belB)) hon).mono ?_
 rintro e w1 ⟨v1, rfl, ho1, hb1⟩
 obtain ⟨A1, c1, rfl, _⟩ := ho1.txs (by rw [HO.out.1]; omega)
 rw [HO.out.1] at ho1 ⊢
 have HO1 := ħ (ho1.mono (B' := w.heap.size + 3) (by simp))
 have hz_w1 : w.heap.size + 3 ≤ w1.heap.size := (by have hq := (hb1).size; (try simp at hq); omega); have hc0_w1 := fun o => (bcell hb1).1 (w.heap.size) o (by first | (simp; done) | (simp; omega) | omega); have hc1_w1 := fun o => (bcell hb1).1 (w.heap.size + 1) o (by first | (simp; done) | (simp; omega) | omega); have hc2_w1 := fun o => (bcell hb1).1 (w.heap.size + 2) o (by first | (simp; done) | (simp; omega) | omega); have hf0_w1 := fun o => (bcell hb1).2 (w.heap.size) o (by first | (simp; done) | (simp; omega) | omega); have hf1_w1 := fun o => (bcell hb1).2 (w.heap.size + 1) o (by first | (simp; done) | (simp; omega) | omega); have hf2_w1 := fun o => (bcell hb1).2 (w.heap.size + 2) o (by first | (simp; done) | (simp; omega) | omega)
 clear ho1
 go_wp2_with fail
 refine (ref0_CopyWaits tA tn tc D.wa _ (HT.out.up (belB)) HS.out.wa).mono ?_
 rintro e w2 ⟨v2, rfl, ho2, hb2⟩
 obtain ⟨A2, c2, rfl, _⟩ := ho2.waits HS.out.wa
 rw [HT.out.1] at ho2 ⊢
 have HP2 : Hid (∃ ps, OwnT dWait w2 (w.heap.size + 3) (.slice A2 tn c2) ps D.wa ∧ ∀ j, j < D.wa.length → ∀ q, (ps.getD j default).ownBlock = some q → q < w2.heap.size) := ħ (by obtain ⟨ps, hp⟩ := ho2; exact ⟨ps, hp.mono (by simp; omega), fun j hj q hq => (own_lt (show World.ownsRow _ _ 3 1 _ _ _ from hp.2.2 j hj) q hq).2⟩)
 have HO2 := ħ (ho2.mono (B' := w.heap.size + 3) (by simp; omega))
 have hz_w2 : w.heap.size + 3 ≤ w2.heap.size := (by have hq := (hb2).size; (try simp at hq); omega); have hc0_w2 := fun o => (bcell hb2).1 (w.heap.size) o (by first | (simp; done) | (simp; omega) | omega); have hc1_w2 := fun o => (bcell hb2).1 (w.heap.size + 1) o (by first | (simp; done) | (simp; omega) | omega); have hc2_w2 := fun o => (bcell hb2).1 (w.heap.size + 2) o (by first | (simp; done) | (simp; omega) | omega); have hf0_w2 := fun o => (bcell hb2).2 (w.heap.size) o (by first | (simp; done) | (simp; omega) | omega); have hf1_w2 := fun o => (bcell hb2).2 (w.heap.size + 1) o (by first | (simp; done) | (simp; omega) | omega); have hf2_w2 := fun o => (bcell hb2).2 (w.heap.size + 2) o (by first | (simp; done) | (simp; omega) | omega)
 clear ho2
 go_wp2_with fail
 refine (ref0_CopyHelds eA en ec D.he _ (HE.out.up (belB)) HS.out.he).mono ?_
 rintro e w3 ⟨v3, rfl, ho3, hb3⟩
 obtain ⟨A3, c3, rfl, _⟩ := ho3.helds HS.out.he
 rw [HE.out.1] at ho3 ⊢
 have HO3 := ħ (ho3.mono (B' := w.heap.size + 3) (by simp; omega))
 have hz_w3 : w.heap.size + 3 ≤ w3.heap.size := (by have hq := (hb3).size; (try simp at hq); omega); have hc0_w3 := fun o => (bcell hb3).1 (w.heap.size) o (by first | (simp; done) | (simp; omega) | omega); have hc1_w3 := fun o => (bcell hb3).1 (w.heap.size + 1) o (by first | (simp; done) | (simp; omega) | omega); have hc2_w3 := fun o => (bcell hb3).1 (w.heap.size + 2) o (by first | (simp; done) | (simp; omega) | omega); have hf0_w3 := fun o => (bcell hb3).2 (w.heap.size) o (by first | (simp; done) | (simp; omega) | omega); have hf1_w3 := fun o => (bcell hb3).2 (w.heap.size + 1) o (by first | (simp; done) | (simp; omega) | omega); have hf2_w3 := fun o => (bcell hb3).2 (w.heap.size + 2) o (by first | (simp; done) | (simp; omega) | omega)
 clear ho3
 go_wp2_with fail
 refine (ref0_CopyNumbers rA rn rc D.re _ (HR.out.up (belB)) (by omega)).mono ?_
 rintro e w4 ⟨v4, rfl, ho4, hb4⟩
 obtain ⟨A4, c4, rfl, _⟩ := ho4.ints (by rw [HR.out.1]; omega)
 rw [HR.out.1] at ho4 ⊢
 have HP4 : Hid (∀ q, (Value.slice A4 rn c4).ownBlock = some q → w2.heap.size ≤ q) := ħ (fun q hq => by have h1 := (own_lt (show World.ownsRow _ _ 3 1 _ _ _ from ho4) q hq).1; have h2 := hb3.size; simp at h1 h2; omega)
 have HO4 := ħ (ho4.mono (B' := w.heap.size + 3) (by simp; omega))
 have hz_w4 : w.heap.size + 3 ≤ w4.heap.size := (by have hq := (hb4).size; (try simp at hq); omega); have hc0_w4 := fun o => (bcell hb4).1 (w.heap.size) o (by first | (simp; done) | (simp; omega) | omega); have hc1_w4 := fun o => (bcell hb4).1 (w.heap.size + 1) o (by first | (simp; done) | (simp; omega) | omega); have hc2_w4 := fun o => (bcell hb4).1 (w.heap.size + 2) o (by first | (simp; done) | (simp; omega) | omega); have hf0_w4 := fun o => (bcell hb4).2 (w.heap.size) o (by first | (simp; done) | (simp; omega) | omega); have hf1_w4 := fun o => (bcell hb4).2 (w.heap.size + 1) o (by first | (simp; done) | (simp; omega) | omega); have hf2_w4 := fun o => (bcell hb4).2 (w.heap.size + 2) o (by first | (simp; done) | (simp; omega) | omega)
 clear ho4
 have k4 : WorkO w4 (w.heap.size + 3) ⟨⟨A1, on, c1⟩, ⟨A2, tn, c2⟩, ⟨A3, en, c3⟩, ⟨A4, rn, c4⟩⟩ D := ⟨(((((HO1.out.set3 (b := w.heap.size + 2) (o := 3) (by omega) (.slice A1 on c1)).up hb2).set3 (b := w.heap.size + 2) (o := 6) (by omega) (.slice A2 tn c2)).up hb3).set3 (b := w.heap.size + 2) (o := 7) (by omega) (.slice A3 en c3)).up hb4, (((HO2.out.low (b := w.heap.size + 2) (o := 6) (u := .slice A2 tn c2) (by omega)).up hb3).low (b := w.heap.size + 2) (o := 7) (u := .slice A3 en c3) (by omega)).up hb4, (HO3.out.low (b := w.heap.size + 2) (o := 7) (u := .slice A3 en c3) (by omega)).up hb4, HO4.out⟩
 have K4 := ħ k4
 obtain ⟨ps, hp2, hlt2⟩ := HP2.out
 have hp4 : OwnT dWait w4 (w.heap.size + 3) (.slice A2 tn c2) ps D.wa := (((hp2.low (b := w.heap.size + 2) (o := 6) (u := .slice A2 tn c2) (by omega)).up hb3).low (b := w.heap.size + 2) (o := 7) (u := .slice A3 en c3) (by omega)).up hb4
 have HP := ħ hp4
 have HLT2 := ħ hlt2
 clear hp2 hp4 hlt2
 clear k4
 go_wp2_with fail
 exact bodyPost_ret (v := .agg #[.int .i64 D.id, .int .i64 D.nodes, .int .i64 D.next, .slice A1 on c1, .int .i64 D.age, .int .i64 D.clock, .slice A2 tn c2, .slice A3 en c3, .slice A4 rn c4]) (by simp [results, Tryz.results17, go_sem, *]) rfl ⟨⟨⟨A1, on, c1⟩, ⟨A2, tn, c2⟩, ⟨A3, en, c3⟩, ⟨A4, rn, c4⟩⟩, rfl, (by (refine WorkO.mono (B := w.heap.size + 3) ?_ (by omega)); (repeat (first | (with_reducible exact K4.out) | ((with_reducible refine WorkO.low ?_ ?_); rotate_left; (omega))))), ⟨ps, (by (refine OwnT.mono (B := w.heap.size + 3) ?_ (by omega)); (show OwnT dWait _ (w.heap.size + 3) (.slice A2 tn c2) ps D.wa); (repeat (first | (with_reducible exact HP.out) | ((with_reducible refine OwnT.low ?_ ?_; rotate_left; (omega)))))), fun j hj q e hq => by have h1 := HLT2.out j hj q hq; have h2 := HP4.out q e; omega⟩, belB⟩
theorem OwnT.kbW {w w' : World} {g B : Nat} {rq : Option Nat} {v : Value} {l : List HeldD} (hk : KB w w' g rq) (h : OwnHs w B v l) {cs xs : List Value} {B2 m : Nat} {u : Value} (hg : Blk w g 70 cs) (hu : w.ownsRow B2 3 1 u m xs) (hrq : rq = u.ownBlock) : OwnHs w' B v l := by
 obtain ⟨ps, h1, h2, h3⟩ := h
 exact ⟨ps, hk.own h1 (own_neT h1 hg (by decide)) (fun q e => own_neO h1 hu (by decide) q (by rw [← hrq]; exact e)), h2, fun j hj => hk.own (show World.ownsRow _ B 41 4 _ _ _ from h3 j hj) (own_neT (show World.ownsRow _ B 41 4 _ _ _ from h3 j hj) hg (by decide)) (fun q e => own_neO (show World.ownsRow _ B 41 4 _ _ _ from h3 j hj) hu (by decide) q (by rw [← hrq]; exact e))⟩
open Go.RowKit

theorem rises_of {l : List Int} {n : Int} (h : RisesIn l n) : Rises l := fun j hj => h.1 j (j + 1) (by omega) hj
theorem kb_below {a b : World} {g n : Nat} {rq : Option Nat} (h : KB a b g rq) (hn : n ≤ a.heap.size) (hg : n ≤ g) (hr : ∀ q, rq = some q → n ≤ q) : Below n a b := ⟨h.os, h.tape, h.output, h.size, fun k hk => h.block k (by omega) (by omega) (fun e => by have := hr k e; omega)⟩
theorem khas_at {l : List WaitD} (hs : SortedW l) {key : Int} {j : Nat} (hj : j < l.length) (e : (wth l j).di = key) : khasW l key = true ∧ kposW l key = j := by
 have hpos : kposW l key = j := cnt_eq _ l j (by omega) (fun t ht => by have := hs t j ht hj; rw [e] at this; exact this) (fun _ => by show ltI (wth l j).di key = false; rw [e]; simp [ltI])
 refine ⟨?_, hpos⟩
 show dec _ = true
 exact dec_iff.2 (by rw [hpos]; exact ⟨hj, e⟩)
/-- The waits when the first k were looked at. -/
noncomputable def stepW (wa : List WaitD) (who d : Int) (k : Nat) : List WaitD := if khasW wa d = true ∧ kposW wa d < k then ackW wa who d else wa
theorem stepW_zero (wa : List WaitD) (who d : Int) : stepW wa who d 0 = wa := by unfold stepW; rw [if_neg (fun h => by have := h.2; omega)]
theorem stepW_len (wa : List WaitD) (who d : Int) (k : Nat) : (stepW wa who d k).length = wa.length := by unfold stepW; split; exact ackW_len _ _ _; rfl
theorem stepW_at {wa : List WaitD} (hs : SortedW wa) {who d : Int} (k : Nat) (hk : k < wa.length) : (stepW wa who d k).getD k default = wth wa k := by
 unfold stepW
 split
 ·rename_i h
  rw [ackW_yes rfl h.1]
  have e := wth_set (l := wa) (j := k) (x := ⟨(wth wa (kposW wa d)).di, ackI (wth wa (kposW wa d)).ak who⟩) (khasW_lt7 rfl h.1).1
  rw [if_neg (by have := h.2; omega)] at e
  exact e
 ·rfl
theorem stepW_skip {wa : List WaitD} {who d : Int} {k : Nat} (h : ¬ (wth wa k).di = d) : stepW wa who d (k + 1) = stepW wa who d k := by
 unfold stepW
 by_cases h1 : khasW wa d = true ∧ kposW wa d < k
 ·rw [if_pos h1, if_pos ⟨h1.1, by have := h1.2; omega⟩]
 ·rw [if_neg h1, if_neg (fun h2 => h1 ⟨h2.1, by
   have h3 := (khasW_lt7 rfl h2.1).2
   rcases Nat.lt_or_ge (kposW wa d) k with g | g
   ·exact g
   ·have e : kposW wa d = k := by have := h2.2; omega
    rw [e] at h3; exact absurd h3 h⟩)]
theorem stepW_low {wa : List WaitD} {who d : Int} {k : Nat} (h : kposW wa d = k) : stepW wa who d k = wa := by unfold stepW; rw [if_neg (fun h2 => by have := h2.2; omega)]
theorem stepW_hit {wa : List WaitD} {who d : Int} {k : Nat} (hk : khasW wa d = true) (h : kposW wa d = k) : stepW wa who d (k + 1) = wa.set k ⟨(wth wa k).di, ackI (wth wa k).ak who⟩ := by
 unfold stepW; rw [if_pos ⟨hk, by omega⟩, ackW_yes h hk]
theorem stepW_end {wa : List WaitD} {who d : Int} {k : Nat} (h : wa.length = k) : stepW wa who d k = ackW wa who d := by
 unfold stepW
 by_cases h1 : khasW wa d = true
 ·rw [if_pos ⟨h1, by have := (khasW_lt7 rfl h1).1; omega⟩]
 ·rw [if_neg (fun h2 => h1 h2.1), ackW_no (by simpa using h1)]
theorem waits_put1 {w : World} {B g c i : Nat} {ps : List Value} {l : List WaitD} {p : Value} {ak : List Int} (h : OwnT dWait w B (.slice (some ⟨g, 0, none⟩) l.length c) ps l) (hi : i < l.length) (hin : OwnI w B p ak) :
  OwnT dWait (w.setCell ⟨g, i * 2 + 1, none⟩ p) B (.slice (some ⟨g, 0, none⟩) l.length c) (ps.set i p) (l.set i ⟨(wth l i).di, ak⟩) := by
 obtain ⟨h1, h2, h3⟩ := h
 have a2 := own_put (u := p) h1 (j := i * 2 + 1) (by show i * 2 + 1 < l.length * 2; omega)
 have e1 : (dcells dWait l ps).set (i * 2 + 1) p = dcells dWait l (ps.set i p) := dcells_set dWait h2 hi (r := 1) (by decide) rfl
 have e2 : dcells dWait (l.set i ⟨(wth l i).di, ak⟩) (ps.set i p) = dcells dWait l (ps.set i p) := dcells_same dWait (by simp [h2]) (by simp) (fun j hj => by
  by_cases hji : j = i
  ·subst hji
   have : (l.set j ⟨(wth l j).di, ak⟩).getD j default = ⟨(wth l j).di, ak⟩ := by simp [hj]
   rw [this]; rfl
  ·have : (l.set i ⟨(wth l i).di, ak⟩).getD j default = l.getD j default := by
    simp only [List.getD_eq_getElem?_getD]; rw [List.getElem?_set, if_neg (fun e => hji e.symm)]
   rw [this])
 refine ⟨by rw [e2, ← e1, List.length_set]; exact a2, by simp [h2], fun j hj => ?_⟩
 rw [List.length_set] at hj
 have far : ∀ {q : Value} {m : List Int}, OwnI w B q m → OwnI (w.setCell ⟨g, i * 2 + 1, none⟩ p) B q m := fun hq => own_setT hq h1 (by decide) rfl
 by_cases hji : j = i
 ·subst hji
  have g1 : (l.set j ⟨(wth l j).di, ak⟩).getD j default = ⟨(wth l j).di, ak⟩ := by simp [hj]
  have g2 : (ps.set j p).getD j default = p := by simp [show j < ps.length by omega]
  rw [g1, g2]
  exact far hin
 ·have g1 : (l.set i ⟨(wth l i).di, ak⟩).getD j default = l.getD j default := by
   simp only [List.getD_eq_getElem?_getD]; rw [List.getElem?_set, if_neg (fun e => hji e.symm)]
  have g2 : (ps.set i p).getD j default = ps.getD j default := by
   simp only [List.getD_eq_getElem?_getD]; rw [List.getElem?_set, if_neg (fun e => hji e.symm)]
  rw [g1, g2]
  exact far (h3 j hj)
set_option maxHeartbeats 8000000 in
theorem ref13_Take2 (P : WorkP) (D : WorkD) (Pm : MsgP) (M : MsgD) (w : World) (h : WorkR w P D) (hs : BigD D) (hp : MsgR w Pm M) (hak : ∀ x ∈ D.wa, x.ak.length ≤ 50000) (hre : D.re.length + D.wa.length ≤ 800000000) (hfr : 1 ≤ M.fr ∧ M.fr ≤ D.nodes) (hk : M.ki = 2) (h4 : TakesK M.ki) (hm : mayW D = true) (hb : msgB M D.nodes = true) (ht : M.tt = D.id) :
  Calls Tryz.prog 49 #[P.val D, M18 Pm M] w fun e w' => ∃ gs P' A n c ps, e = .returned (.tuple #[.pointer (some ⟨gs, 0, none⟩), .int .i64 0]) ∧ Blk w' gs 70 [.int .i64 D.id, .int .i64 D.nodes, .int .i64 D.next, .slice P'.op.A P'.op.n P'.op.c, .int .i64 D.age, .int .i64 D.clock, .slice P'.wa.A P'.wa.n P'.wa.c, .slice P'.he.A P'.he.n P'.he.c, .slice P'.re.A P'.re.n P'.re.c, .slice A n c] ∧ WorkO w' w.heap.size P' (toldD D M.fr M.di) ∧ OwnT dMsg w' w.heap.size (.slice A n c) ps [] ∧ w.heap.size ≤ gs ∧ Below w.heap.size w w' := by
 obtain ⟨⟨oA, on, oc⟩, ⟨tA, tn, tc⟩, ⟨eA, en, ec⟩, ⟨rA, rn, rc⟩⟩ := P
 obtain ⟨⟨bA, bn, bc⟩, ⟨⟨xA, xn, xc⟩, ⟨yA, yn, yc⟩⟩, ⟨⟨⟨cA, cn, cd⟩, ⟨dA, dn, dc⟩⟩, ⟨sA, sn, sc⟩⟩, ⟨zA, zn, zc⟩⟩ := Pm
 obtain ⟨ki, fr, tt, di, b, hd, cc, ds⟩ := M
 have HWK := ħ h
 have HMM := ħ hp
 have HK4 : Hid (TakesK ki) := ħ h4
 have HS := ħ hs
 dsimp only at hk ht hfr
 have HBY := ħ hb
 have hd1 : (tt != D.id) = false := by simp [ht]
 have HM := ħ (mayW_iff.1 hm)
 have HSW : Hid (SortedW D.wa) := ħ (WaitsOk.sorted HM.out.2.2.2.2.2.2.2.2.2.1)
 have HRI : Hid (∀ x ∈ D.wa, RisesIn x.ak D.nodes) := ħ (waits_rise HM.out.2.2.2.2.2.2.2.2.2.1)
 have HAK := ħ hak
 have HRE := ħ hre
 have HFR := ħ hfr
 have HNS : Hid (isS D.nodes = true) := ħ HM.out.1
 have hbwa := hs.wa
 have HBW := ħ hbwa
 dsimp only
 have HK7 := ħ hk
 clear h hp hb ht hm hs h4 hk hak hre hfr hbwa
 show Calls Tryz.prog 49 #[.agg #[.int .i64 D.id, .int .i64 D.nodes, .int .i64 D.next, .slice oA on oc, .int .i64 D.age, .int .i64 D.clock, .slice tA tn tc, .slice eA en ec, .slice rA rn rc], .agg #[.int .i64 ki, .int .i64 fr, .int .i64 tt, .int .i64 di, .int .i64 b.au, .int .i64 b.n, .slice bA bn bc, .int .i64 hd.au, .int .i64 hd.ro, .slice xA xn xc, .slice yA yn yc, .int .i64 cc.h.au, .int .i64 cc.h.ro, .slice cA cn cd, .slice dA dn dc, .int .i64 cc.di, .slice sA sn sc, .slice zA zn zc]] w _
 go_enter Tryz.func49, Tryz.ntmps49
 go_upto_region 1 with fail
 refine wp_world (fun W hW => ?_)
 have HA0 : Hid (Blk W w.heap.size 27 [.int .i64 D.id, .int .i64 D.nodes, .int .i64 D.next, .slice oA on oc, .int .i64 D.age, .int .i64 D.clock, .slice tA tn tc, .slice eA en ec, .slice rA rn rc]) := ħ (by rw [hW]; exact (Blk.new w 27 [.int .i64 D.id, .int .i64 D.nodes, .int .i64 D.next, .slice oA on oc, .int .i64 D.age, .int .i64 D.clock, .slice tA tn tc, .slice eA en ec, .slice rA rn rc]).up (belA))
 have HB0 : Hid (Blk W (w.heap.size + 1) 49 [.int .i64 ki, .int .i64 fr, .int .i64 tt, .int .i64 di, .int .i64 b.au, .int .i64 b.n, .slice bA bn bc, .int .i64 hd.au, .int .i64 hd.ro, .slice xA xn xc, .slice yA yn yc, .int .i64 cc.h.au, .int .i64 cc.h.ro, .slice cA cn cd, .slice dA dn dc, .int .i64 cc.di, .slice sA sn sc, .slice zA zn zc]) := ħ (by rw [hW]; exact Blk.new1 w 27 49 [.int .i64 D.id, .int .i64 D.nodes, .int .i64 D.next, .slice oA on oc, .int .i64 D.age, .int .i64 D.clock, .slice tA tn tc, .slice eA en ec, .slice rA rn rc] [.int .i64 ki, .int .i64 fr, .int .i64 tt, .int .i64 di, .int .i64 b.au, .int .i64 b.n, .slice bA bn bc, .int .i64 hd.au, .int .i64 hd.ro, .slice xA xn xc, .slice yA yn yc, .int .i64 cc.h.au, .int .i64 cc.h.ro, .slice cA cn cd, .slice dA dn dc, .int .i64 cc.di, .slice sA sn sc, .slice zA zn zc])
 have hbW : Below w.heap.size w W := by rw [hW]; exact bel_alloc (bel_alloc (Below.refl _ _))
 clear hW
 have hql := HA0.out.lt
 have hqb := HA0.out.box
 have q0 := hqb.2 0 _ rfl; have q1 := hqb.2 1 _ rfl; have q2 := hqb.2 2 _ rfl; have q3 := hqb.2 3 _ rfl; have q4 := hqb.2 4 _ rfl; have q5 := hqb.2 5 _ rfl; have q6 := hqb.2 6 _ rfl; have q7 := hqb.2 7 _ rfl; have q8 := hqb.2 8 _ rfl
 clear hqb
 go_upto_region 2 with (go_at_call 17; refine (ref0_CopyWorker3 ⟨⟨oA, on, oc⟩, ⟨tA, tn, tc⟩, ⟨eA, en, ec⟩, ⟨rA, rn, rc⟩⟩ D _ (HWK.out.up hbW) HS.out).mono ?_; rintro e w1 ⟨⟨⟨oA2, on2, oc2⟩, ⟨tA2, tn2, tc2⟩, ⟨eA2, en2, ec2⟩, ⟨rA2, rn2, rc2⟩⟩, he1, hO1, ⟨qw, hTW, hAPW⟩, hb1⟩; simp only [WorkP.val] at he1; subst he1)
 clear q0 q1 q2 q3 q4 q5 q6 q7 q8 hql
 refine wp_world (fun W2 hW2 => ?_)
 have HG : Hid (Blk W2 w1.heap.size 70 [.int .i64 D.id, .int .i64 D.nodes, .int .i64 D.next, .slice oA2 on2 oc2, .int .i64 D.age, .int .i64 D.clock, .slice tA2 tn2 tc2, .slice eA2 en2 ec2, .slice rA2 rn2 rc2, .slice none 0 0]) := ħ (by rw [hW2]; exact Blk.new w1 70 [.int .i64 D.id, .int .i64 D.nodes, .int .i64 D.next, .slice oA2 on2 oc2, .int .i64 D.age, .int .i64 D.clock, .slice tA2 tn2 tc2, .slice eA2 en2 ec2, .slice rA2 rn2 rc2, .slice none 0 0])
 have hb2 : Below w1.heap.size w1 W2 := by rw [hW2]; exact bel_alloc (Below.refl _ _)
 clear hW2
 obtain ⟨gs, hgs⟩ : ∃ g, g = w1.heap.size := ⟨_, rfl⟩
 obtain ⟨gm, hgm⟩ : ∃ g, g = w.heap.size + 1 := ⟨_, rfl⟩
 obtain ⟨gw, hgw⟩ : ∃ g, g = w.heap.size := ⟨_, rfl⟩
 have hE : (Value.pointer (some ⟨w.heap.size, 0, none⟩)) = .pointer (some ⟨gw, 0, none⟩) := by rw [hgw]
 have hz1 : w.heap.size + 2 ≤ w1.heap.size := by have := (HB0.out.up hb1).lt; omega
 have HW0 : Hid (Blk W2 gw 27 [.int .i64 D.id, .int .i64 D.nodes, .int .i64 D.next, .slice oA on oc, .int .i64 D.age, .int .i64 D.clock, .slice tA tn tc, .slice eA en ec, .slice rA rn rc]) := ħ (by rw [hgw]; exact (HA0.out.up hb1).up hb2)
 have HBM : Hid (Blk W2 gm 49 [.int .i64 ki, .int .i64 fr, .int .i64 tt, .int .i64 di, .int .i64 b.au, .int .i64 b.n, .slice bA bn bc, .int .i64 hd.au, .int .i64 hd.ro, .slice xA xn xc, .slice yA yn yc, .int .i64 cc.h.au, .int .i64 cc.h.ro, .slice cA cn cd, .slice dA dn dc, .int .i64 cc.di, .slice sA sn sc, .slice zA zn zc]) := ħ (by rw [hgm]; exact (HB0.out.up hb1).up hb2)
 have HO2 := ħ ((hO1.mono (B' := w.heap.size) hbW.size).up hb2)
 have hb0 : Below w.heap.size w W2 := bel_trans (bel_trans hbW hb1) hb2
 rw [← hgs] at HG ⊢
 rw [← hgm]
 try simp only [hE]
 have hgmr : gm < gs := by omega
 have hgwm : gw < gm := by omega
 have hgww : w.heap.size ≤ gw := by omega
 have HTW2 : Hid (OwnT dWait W2 w.heap.size (.slice tA2 tn2 tc2) qw D.wa) := ħ ((OwnT.mono (show OwnT dWait w1 W.heap.size (.slice tA2 tn2 tc2) qw D.wa from hTW) hbW.size).up hb2)
 have HAPW : Hid (ApartW qw D.wa (Value.slice rA2 rn2 rc2).ownBlock) := ħ hAPW
 have hgs1 : w1.heap.size ≤ gs := by omega
 clear hTW hAPW
 clear hgs hgm hgw hE HA0 HB0 hbW hb1 hb2 hO1 hz1
 refine wp_region_list ?_
 simp only [List.append_eq, List.append, List.cons_append, List.nil_append, List.toList_toArray]
 refine wpList_load_mid rfl 49 _ rfl gm 0 (by simp [Act.eval, Act.put]) [.int .i64 ki, .int .i64 fr, .int .i64 tt, .int .i64 di, .int .i64 b.au, .int .i64 b.n, .slice bA bn bc, .int .i64 hd.au, .int .i64 hd.ro, .slice xA xn xc, .slice yA yn yc, .int .i64 cc.h.au, .int .i64 cc.h.ro, .slice cA cn cd, .slice dA dn dc, .int .i64 cc.di, .slice sA sn sc, .slice zA zn zc] _ HBM.out.rng Tryz.underlying49 (by rfl) (by kernel_rfl) ?_
 (try simp only [lz, List.toList_toArray])
 refine wpList_plain rfl (fun K hK => ?_)
 go_simp
 refine hK _ _ ?_
 clear hK K
 (try simp only [lz])
 refine wpList_plain rfl (fun K hK => ?_)
 have r1 := HW0.out.box.2 1 _ rfl
 go_simp
 refine hK _ _ ?_
 clear hK K
 clear r1
 (try simp only [lz])
 refine wpList_plain rfl (fun K hK => ?_)
 go_simp
 refine (ref4_Message4 ⟨⟨bA, bn, bc⟩, ⟨⟨xA, xn, xc⟩, ⟨yA, yn, yc⟩⟩, ⟨⟨⟨cA, cn, cd⟩, ⟨dA, dn, dc⟩⟩, ⟨sA, sn, sc⟩⟩, ⟨zA, zn, zc⟩⟩ ⟨ki, fr, tt, di, b, hd, cc, ds⟩ D.nodes true _ (HMM.out.up hb0) HK4.out HBY.out).mono ?_
 rintro e w3 ⟨rfl, hb3⟩
 dsimp only
 refine hK _ _ ?_
 clear hK K
 (try simp only [lz])
 have HW3 := ħ (HW0.out.up hb3)
 have HB3 := ħ (HBM.out.up hb3)
 have HG3 := ħ (HG.out.up hb3)
 have HO3 := ħ (HO2.out.up hb3)
 have HTW3 := ħ (HTW2.out.up hb3)
 have hb03 := bel_trans hb0 hb3
 clear hb3 HW0 HBM HG HO2 hb0
 iterate 3 (((first | refine wpList_plain rfl (fun K hK => ?_) | refine wpList_takeG (by kernel_rfl) (fun K hK => ?_))); go_simp; refine hK _ _ ?_; clear hK K; (try simp only [lz]))
 refine wpList_takeG (by kernel_rfl) (fun K hK => ?_)
 have r2 := HB3.out.box.2 2 _ rfl
 go_simp
 refine hK _ _ ?_
 clear hK K
 clear r2
 (try simp only [lz])
 refine wpList_takeG (by kernel_rfl) (fun K hK => ?_)
 go_simp
 refine hK _ _ ?_
 clear hK K
 (try simp only [lz])
 refine wpList_takeG (by kernel_rfl) (fun K hK => ?_)
 have r0 := HW3.out.box.2 0 _ rfl
 go_simp
 refine hK _ _ ?_
 clear hK K
 clear r0
 (try simp only [lz])
 iterate 2 (((first | refine wpList_plain rfl (fun K hK => ?_) | refine wpList_takeG (by kernel_rfl) (fun K hK => ?_))); go_simp; refine hK _ _ ?_; clear hK K; (try simp only [lz]))
 refine wpList_nil ?_
 rename_i Ka hKa
 refine hKa _ _ ?_
 clear hKa Ka
 clear hd1 HTW2
 have hk := HK7.out
 clear HK7
 subst hk
 have m0 := HB3.out.box.2 0 _ rfl
 have hgl := HB3.out.lt
 go_wp2_with fail
 clear m0 hgl
 have HTN : Hid (D.wa.length = tn2) := ħ (by obtain ⟨A', c', e', _⟩ := HTW3.out.read; injection e' with _ e2 _; exact e2.symm)
 go_loopw [7] (fun iv wr => ∃ (k : Nat) (ps : List Value), k ≤ tn2 ∧ iv = .int .i64 k ∧ Hid (Blk wr gs 70 [.int .i64 D.id, .int .i64 D.nodes, .int .i64 D.next, .slice oA2 on2 oc2, .int .i64 D.age, .int .i64 D.clock, .slice tA2 tn2 tc2, .slice eA2 en2 ec2, .slice rA2 rn2 rc2, .slice none 0 0]) ∧ Hid (Blk wr gm 49 [.int .i64 2, .int .i64 fr, .int .i64 tt, .int .i64 di, .int .i64 b.au, .int .i64 b.n, .slice bA bn bc, .int .i64 hd.au, .int .i64 hd.ro, .slice xA xn xc, .slice yA yn yc, .int .i64 cc.h.au, .int .i64 cc.h.ro, .slice cA cn cd, .slice dA dn dc, .int .i64 cc.di, .slice sA sn sc, .slice zA zn zc]) ∧ Hid (OwnT dWait wr w.heap.size (.slice tA2 tn2 tc2) ps (stepW D.wa fr di k)) ∧ Hid (ApartW ps (stepW D.wa fr di k) (Value.slice rA2 rn2 rc2).ownBlock) ∧ Hid (OwnX wr w.heap.size (.slice oA2 on2 oc2) D.op) ∧ Hid (OwnHs wr w.heap.size (.slice eA2 en2 ec2) D.he) ∧ Hid (OwnI wr w.heap.size (.slice rA2 rn2 rc2) D.re) ∧ Below w.heap.size w wr) (fun iv _ => tn2 - (intOf iv).toNat)
 case atStart => exact ⟨0, qw, Nat.zero_le _, rfl, HG3, HB3, ħ (by rw [stepW_zero]; exact HTW3.out), ħ (by rw [stepW_zero]; exact HAPW.out), ħ HO3.out.op, ħ HO3.out.he, ħ HO3.out.re, hb03⟩
 case round =>
  clear HG3 HB3 HTW3 HO3 HW3
  obtain ⟨k, ps, hk7, rfl, HGS, HBK, HTK, HAP, HOP, HHE, HRR, hbut⟩ := hrel
  (obtain ⟨wk, hwk⟩ : ∃ x, x = wr := ⟨_, rfl⟩); subst hwk
  have g6 := HGS.out.box.2 6 _ rfl
  have hgk := HGS.out.lt
  have htn8 : tn2 ≤ 800000000 := by rw [← HTN.out]; exact HBW.out.1
  by_cases hlt : k < tn2
  ·skip
   obtain ⟨tb, eA, htb1, htb2⟩ := own_nz (show World.ownsRow wk w.heap.size 56 2 (.slice tA2 tn2 tc2) tn2 (dcells dWait (stepW D.wa fr di k) ps) from by have h8 := HTK.out.1; rw [stepW_len, HTN.out] at h8; exact h8) (by omega)
   subst eA
   have hkl : k < D.wa.length := by rw [HTN.out]; exact hlt
   have hks : k < (stepW D.wa fr di k).length := by rw [stepW_len]; exact hkl
   have hrow : wk.ownsRow w.heap.size 56 2 (.slice (some ⟨tb, 0, none⟩) tn2 tc2) tn2 (dcells dWait (stepW D.wa fr di k) ps) := by have h8 := HTK.out.1; rw [stepW_len, HTN.out] at h8; exact h8
   have HROW := ħ hrow
   obtain ⟨gg, fg⟩ := own_get hrow
   have hwk : (stepW D.wa fr di k).getD k default = wth D.wa k := stepW_at HSW.out k hkl
   have q0 : wk.cell? ⟨tb, k * 2, none⟩ = some (.int .i64 (wth D.wa k).di) := gg _ _ (by rw [show k * 2 = k * dWait.k + 0 from rfl, dcells_at dWait HTK.out.2.1 (j := k) (r := 0) hks (by decide), hwk]; rfl)
   have hlk : (k : Int) < (tn2 : Int) := by omega
   have m3 := HBK.out.box.2 3 _ rfl
   have hml := HBK.out.lt
   have HGG := ħ (And.intro gg fg)
   have HWK := ħ hwk
   have HKS := ħ hks
   clear gg hrow hwk hks
   by_cases hd : (wth D.wa k).di = di
   ·skip
    have hde : ((wth D.wa k).di == di) = true := by simp [hd]
    have hde3 : decide ((wth D.wa k).di = di) = true := by simp [hd]
    obtain ⟨hkh, hkp⟩ := khas_at HSW.out hkl hd
    have HWA : Hid (stepW D.wa fr di k = D.wa) := ħ (stepW_low hkp)
    have HSL : Hid (stepW D.wa fr di (k + 1) = D.wa.set k ⟨(wth D.wa k).di, ackI (wth D.wa k).ak fr⟩) := ħ (stepW_hit hkh hkp)
    go_upto_region 15 with fail
    obtain ⟨S5, hSd5⟩ : ∃ S : World → Prop, S = fun Q => Q.cell? ⟨gs, 6, none⟩ = some (.slice (some ⟨tb, 0, none⟩) tn2 tc2) ∧ Q.cell? ⟨gm, 3, none⟩ = some (.int .i64 di) ∧ Q.cell? ⟨tb, k * 2, none⟩ = some (.int .i64 (wth D.wa k).di) := ⟨_, rfl⟩
    have hS51 : ∀ Q, S5 Q → Q.cell? ⟨gs, 6, none⟩ = some (.slice (some ⟨tb, 0, none⟩) tn2 tc2) := fun Q h => by rw [hSd5] at h; exact h.1
    have hS52 : ∀ Q, S5 Q → Q.cell? ⟨gm, 3, none⟩ = some (.int .i64 di) := fun Q h => by rw [hSd5] at h; exact h.2.1
    have hS53 : ∀ Q, S5 Q → Q.cell? ⟨tb, k * 2, none⟩ = some (.int .i64 (wth D.wa k).di) := fun Q h => by rw [hSd5] at h; exact h.2.2
    have hbd5 : Below wk.heap.size wk wk.drew := bel_drew (Below.refl _ _)
    have hS50 : S5 wk.drew := by rw [hSd5]; exact ⟨(hbd5.cell (p := ⟨gs, 6, none⟩) hgk).trans g6, (hbd5.cell (p := ⟨gm, 3, none⟩) hml).trans m3, (hbd5.cell (p := ⟨tb, k * 2, none⟩) htb2).trans q0⟩
    clear hSd5
    refine wp_region_held_drew (S := S5) (by kernel_rfl) hS50 (fun hHeld => ?_)
    have HBD5 := ħ hbd5
    clear hS50 hbd5
    generalize wk.drew = Z5 at *
    (refine wpAnyH_tk 0 (some 68) (v := ?_) rfl rfl ?_ ?_; rotate_left; (focus (intro wq hSw; clear hSw; go_simp; all_goals (with_reducible rfl))); simp only [lz])
    (refine wpAnyH_tk 1 (some 69) (v := ?_) rfl rfl ?_ ?_; rotate_left; (focus (intro wq hSw; clear hSw; go_simp; all_goals (with_reducible rfl))); simp only [lz])
    (refine wpAnyH_tk 2 (some 70) (v := ?_) rfl rfl ?_ ?_; rotate_left; (focus (intro wq hSw; clear hSw; go_simp; all_goals (with_reducible rfl))); simp only [lz])
    (refine wpAnyH_tk 3 (some 71) (v := ?_) rfl rfl ?_ ?_; rotate_left; (focus (intro wq hSw; clear hSw; go_simp; all_goals (with_reducible rfl))); simp only [lz])
    (refine wpAnyH_tk 4 (some 72) (v := ?_) rfl rfl ?_ ?_; rotate_left; (focus (intro wq hSw; have q1 := hS51 wq hSw; clear hSw; go_simp; all_goals (with_reducible rfl))); simp only [lz])
    (refine wpAnyH_tk 5 (some 73) (v := ?_) rfl rfl ?_ ?_; rotate_left; (focus (intro wq hSw; clear hSw; go_simp; all_goals (with_reducible rfl))); simp only [lz])
    (refine wpAnyH_tk 6 (some 74) (v := ?_) rfl rfl ?_ ?_; rotate_left; (focus (intro wq hSw; clear hSw; go_simp; all_goals (with_reducible rfl))); simp only [lz])
    (refine wpAnyH_tk 7 (some 75) (v := ?_) rfl rfl ?_ ?_; rotate_left; (focus (intro wq hSw; clear hSw; go_simp; all_goals (with_reducible rfl))); simp only [lz])
    (refine wpAnyH_tk 8 (some 76) (v := ?_) rfl rfl ?_ ?_; rotate_left; (focus (intro wq hSw; have q1 := hS53 wq hSw; clear hSw; go_simp; all_goals (with_reducible rfl))); simp only [lz])
    (refine wpAnyH_tk 9 (some 77) (v := ?_) rfl rfl ?_ ?_; rotate_left; (focus (intro wq hSw; clear hSw; go_simp; all_goals (with_reducible rfl))); simp only [lz])
    (refine wpAnyH_tk 10 (some 78) (v := ?_) rfl rfl ?_ ?_; rotate_left; (focus (intro wq hSw; have q1 := hS52 wq hSw; clear hSw; go_simp; all_goals (with_reducible rfl))); simp only [lz])
    (refine wpAnyH_tk 11 (some 79) (v := ?_) rfl rfl ?_ ?_; rotate_left; (focus (intro wq hSw; clear hSw; go_simp; all_goals (with_reducible rfl))); simp only [lz])
    refine wpAnyH_done (by kernel_rfl) ?_ _
    clear hS51 hS52 hS53 hHeld
    have HGS := ħ (HGS.out.up HBD5.out)
    have HBK := ħ (HBK.out.up HBD5.out)
    have HTK := ħ (HTK.out.up HBD5.out)
    have HOP := ħ (OwnX.up HOP.out HBD5.out)
    have HHE := ħ (HHE.out.up HBD5.out)
    have HRR := ħ (HRR.out.up HBD5.out)
    have hbut := bel_trans hbut HBD5.out
    have htb2 := Nat.lt_of_lt_of_le htb2 HBD5.out.size
    have HROW := ħ (own_up HROW.out HBD5.out)
    go_upto_region 16 with fail
    clear g6 q0 m3 hgk hml hde hde3 HBD5
    obtain ⟨v7, hv7⟩ : ∃ v, ps.getD k default = v := ⟨_, rfl⟩
    have hpo : OwnI Z5 w.heap.size v7 (wth D.wa k).ak := by have h8 : OwnI Z5 w.heap.size (ps.getD k default) ((stepW D.wa fr di k).getD k default).ak := HTK.out.2.2 k HKS.out; rw [HWK.out, hv7] at h8; exact h8
    have hak9 := HAK.out _ (getD_mem (l := D.wa) hkl)
    have HAKK : Hid ((wth D.wa k).ak.length ≤ 50000) := ħ hak9
    obtain ⟨A7, c7, rfl, -⟩ := hpo.ints (by have := HAKK.out; omega)
    obtain ⟨n7, hn7⟩ : ∃ n, (wth D.wa k).ak.length = n := ⟨_, rfl⟩
    rw [hn7] at hpo hv7
    obtain ⟨n8, hn8⟩ : ∃ n, (ackI (wth D.wa k).ak fr).length = n := ⟨_, rfl⟩
    have hn8b : n8 ≤ 50001 := by rw [← hn8]; have := ackI_len (wth D.wa k).ak fr; have := HAKK.out; omega
    have HPO := ħ hpo
    have HPS := ħ hv7
    have HN8 := ħ hn8
    have HRJ : Hid (Rises (wth D.wa k).ak) := ħ (rises_of (HRI.out _ (getD_mem (l := D.wa) hkl)))
    have hgtb : gs ≠ tb := fun e => by subst e; exact own_neT HROW.out HGS.out (by decide) rfl
    have hgmtb : gm ≠ tb := fun e => by subst e; exact own_neT HROW.out HBK.out (by decide) rfl
    clear hpo hv7 hn7 hn8 hak9 hd
    obtain ⟨S, hSd⟩ : ∃ S : World → Prop, S = fun Q => Q.cell? ⟨gs, 6, none⟩ = some (.slice (some ⟨tb, 0, none⟩) tn2 tc2) ∧ Q.cell? ⟨gm, 1, none⟩ = some (.int .i64 fr) := ⟨_, rfl⟩
    have hS1 : ∀ Q, S Q → Q.cell? ⟨gs, 6, none⟩ = some (.slice (some ⟨tb, 0, none⟩) tn2 tc2) := fun Q h => by rw [hSd] at h; exact h.1
    have hS2 : ∀ Q, S Q → Q.cell? ⟨gm, 1, none⟩ = some (.int .i64 fr) := fun Q h => by rw [hSd] at h; exact h.2
    have hS : ∀ Q, Below Z5.heap.size Z5 Q → S Q := fun Q hQ => by rw [hSd]; exact ⟨(HGS.out.up hQ).box.2 6 _ rfl, (HBK.out.up hQ).box.2 1 _ rfl⟩
    have hS9 : ∀ Q u, S Q → S (Q.setCell ⟨tb, k * 2 + 1, none⟩ u) := fun Q u h => by rw [hSd] at h ⊢; exact ⟨(World.cell?_setCell_other _ _ _ _ (by intro e; simp only [Addr.mk.injEq] at e; omega)).trans h.1, (World.cell?_setCell_other _ _ _ _ (by intro e; simp only [Addr.mk.injEq] at e; omega)).trans h.2⟩
    clear hSd
    refine wp_region_held_drew (S := S) (by kernel_rfl) (hS _ (bel_drew (Below.refl _ _))) (fun hHeld => ?_)
    have hbd : Below Z5.heap.size Z5 Z5.drew := bel_drew (Below.refl _ _)
    have hZ := hHeld
    generalize Z5.drew = Z at *
    (refine wpAnyH_tk 0 (some 80) (v := ?_) rfl rfl ?_ ?_; rotate_left; (focus (intro wq hSw; clear hSw; go_simp; all_goals (with_reducible rfl))); simp only [lz])
    (refine wpAnyH_tk 1 (some 81) (v := ?_) rfl rfl ?_ ?_; rotate_left; (focus (intro wq hSw; clear hSw; go_simp; all_goals (with_reducible rfl))); simp only [lz])
    (refine wpAnyH_tk 2 (some 82) (v := ?_) rfl rfl ?_ ?_; rotate_left; (focus (intro wq hSw; clear hSw; go_simp; all_goals (with_reducible rfl))); simp only [lz])
    (refine wpAnyH_tk 3 (some 83) (v := ?_) rfl rfl ?_ ?_; rotate_left; (focus (intro wq hSw; clear hSw; go_simp; all_goals (with_reducible rfl))); simp only [lz])
    (refine wpAnyH_tk 4 (some 84) (v := ?_) rfl rfl ?_ ?_; rotate_left; (focus (intro wq hSw; have q1 := hS1 wq hSw; clear hSw; go_simp; all_goals (with_reducible rfl))); simp only [lz])
    (refine wpAnyH_tk 5 (some 85) (v := ?_) rfl rfl ?_ ?_; rotate_left; (focus (intro wq hSw; clear hSw; go_simp; all_goals (with_reducible rfl))); simp only [lz])
    (refine wpAnyH_tk 6 (some 86) (v := ?_) rfl rfl ?_ ?_; rotate_left; (focus (intro wq hSw; clear hSw; go_simp; all_goals (with_reducible rfl))); simp only [lz])
    (refine wpAnyH_tk 7 (some 87) (v := ?_) rfl rfl ?_ ?_; rotate_left; (focus (intro wq hSw; clear hSw; go_simp; all_goals (with_reducible rfl))); simp only [lz])
    (refine wpAnyH_tk 8 (some 88) (v := ?_) rfl rfl ?_ ?_; rotate_left; (focus (intro wq hSw; clear hSw; go_simp; all_goals (with_reducible rfl))); simp only [lz])
    (refine wpAnyH_tk 9 (some 89) (v := ?_) rfl rfl ?_ ?_; rotate_left; (focus (intro wq hSw; clear hSw; go_simp; all_goals (with_reducible rfl))); simp only [lz])
    (refine wpAnyH_tk 10 (some 90) (v := ?_) rfl rfl ?_ ?_; rotate_left; (focus (intro wq hSw; have q1 := hS1 wq hSw; clear hSw; go_simp; all_goals (with_reducible rfl))); simp only [lz])
    (refine wpAnyH_tk 11 (some 91) (v := ?_) rfl rfl ?_ ?_; rotate_left; (focus (intro wq hSw; clear hSw; go_simp; all_goals (with_reducible rfl))); simp only [lz])
    (refine wpAnyH_tk 12 (some 92) (v := ?_) rfl rfl ?_ ?_; rotate_left; (focus (intro wq hSw; clear hSw; go_simp; all_goals (with_reducible rfl))); simp only [lz])
    (refine wpAnyH_tk 13 (some 93) (v := ?_) rfl rfl ?_ ?_; rotate_left; (focus (intro wq hSw; clear hSw; go_simp; all_goals (with_reducible rfl))); simp only [lz])
    (refine wpAnyH_tk 15 (some 95) (v := ?_) rfl rfl ?_ ?_; rotate_left; (focus (intro wq hSw; clear hSw; go_simp; all_goals (with_reducible rfl))); simp only [lz])
    (refine wpAnyH_tk 16 (some 96) (v := ?_) rfl rfl ?_ ?_; rotate_left; (focus (intro wq hSw; have q1 := hS2 wq hSw; clear hSw; go_simp; all_goals (with_reducible rfl))); simp only [lz])
    refine rd1 14 rfl fun K hK => ?_
    have HRZ := HROW.out
    obtain ⟨gz, fz⟩ := own_get (own_up HROW.out hbd)
    have q1 : Z.cell? ⟨tb, k * 2 + 1, none⟩ = some (.slice A7 n7 c7) := gz _ _ (by rw [show k * 2 + 1 = k * dWait.k + 1 from rfl, dcells_at dWait HTK.out.2.1 (j := k) (r := 1) HKS.out (by decide), HWK.out, HPS.out]; rfl)
    have ql := (own_lt (own_up HROW.out hbd) tb rfl).2
    go_simp
    clear q1 ql fz gz HRZ
    refine hK.out _ _ (hS _ hbd) (fun hHeld => ?_)
    clear hK K
    (try simp only [lz])
    refine rd1 17 rfl fun K hK => ?_
    go_simp
    (go_at_call 91; refine (ref0_With (.slice A7 n7 c7) (wth D.wa k).ak fr w.heap.size _ (HPO.out.up hbd) HRJ.out (by have := HAKK.out; omega) (Nat.le_trans hbut.size hbd.size)).mono ?_; rintro e w6 ⟨v6, rfl, ho6, hb6, hob6⟩; obtain ⟨A8, c8, rfl, -⟩ := ho6.ints (by rw [HN8.out]; omega); rw [HN8.out] at ho6 hob6 ⊢)
    have hb67 := bel_trans hbd hb6
    refine hK.out _ _ (hS _ hb67) (fun hHeld => ?_)
    clear hK K
    (try simp only [lz])
    (refine wpAnyH_tk 18 (some 98) (v := ?_) rfl rfl ?_ ?_; rotate_left; (focus (intro wq hSw; clear hSw; go_simp; all_goals (with_reducible rfl))); simp only [lz])
    (refine wpAnyH_tk 19 (some 99) (v := ?_) rfl rfl ?_ ?_; rotate_left; (focus (intro wq hSw; clear hSw; go_simp; all_goals (with_reducible rfl))); simp only [lz])
    refine rd1 20 rfl fun K hK => ?_
    have hr6 := own_up HROW.out hb67
    obtain ⟨gz, fz⟩ := own_get hr6
    have q1 : w6.cell? ⟨tb, k * 2 + 1, none⟩ = some (.slice A7 n7 c7) := gz _ _ (by rw [show k * 2 + 1 = k * dWait.k + 1 from rfl, dcells_at dWait HTK.out.2.1 (j := k) (r := 1) HKS.out (by decide), HWK.out, HPS.out]; rfl)
    have ql := (own_lt hr6 tb rfl).2
    clear gz
    go_simp
    clear q1 ql fz
    refine hK.out _ _ (hS9 _ _ (hS _ hb67)) (fun hHeld => ?_)
    clear hK K
    (try simp only [lz])
    refine wpAnyH_done (by kernel_rfl) ?_ _
    have hP7 := waits_put1 (i := k) (p := .slice A8 n8 c8) (ak := ackI (wth D.wa k).ak fr) (h := OwnT.up (by have h8 := HTK.out; rw [HWA.out] at h8; rw [← HTN.out] at h8; exact h8) hb67) hkl ho6
    have hob : (Value.slice (some ⟨tb, 0, none⟩) tn2 tc2).ownBlock = some tb := rfl
    have hG7 := (HGS.out.up hb67).far (p := ⟨tb, k * 2 + 1, none⟩) (by show gs ≠ tb; exact hgtb) (.slice A8 n8 c8)
    have hB7 := (HBK.out.up hb67).far (p := ⟨tb, k * 2 + 1, none⟩) (by show gm ≠ tb; exact hgmtb) (.slice A8 n8 c8)
    have hO7 : OwnX _ w.heap.size (.slice oA2 on2 oc2) D.op := own_setT (o := k * 2 + 1) (x := .slice A8 n8 c8) (own_up HOP.out hb67) hr6 (by decide) hob
    have hH7 := OwnHs.setW (o := k * 2 + 1) (x := .slice A8 n8 c8) (HHE.out.up hb67) hr6 hob
    have hR7 : OwnI _ w.heap.size (.slice rA2 rn2 rc2) D.re := own_setT (o := k * 2 + 1) (x := .slice A8 n8 c8) (own_up (show World.ownsRow _ _ 3 1 _ _ _ from HRR.out) hb67) hr6 (by decide) hob
    have hb7 : Below w.heap.size w (w6.setCell ⟨tb, k * 2 + 1, none⟩ (.slice A8 n8 c8)) := (hbut.trans (hb67.mono hbut.size)).setCell (p := ⟨tb, k * 2 + 1, none⟩) htb1 _
    have hA7 : ApartW (ps.set k (.slice A8 n8 c8)) (stepW D.wa fr di (k + 1)) (Value.slice rA2 rn2 rc2).ownBlock := by
     intro j hj q hq
     by_cases hjk : j = k
     ·subst hjk
      have e9 : (ps.set j (.slice A8 n8 c8)).getD j default = .slice A8 n8 c8 := by simp [show j < ps.length by rw [HTK.out.2.1]; exact HKS.out]
      rw [e9]
      rcases hob6 with h8 | ⟨q2, h8, h9⟩
      ·rw [h8, ← HPS.out]; exact HAP.out j HKS.out q hq
      ·rw [h8]; intro e; injection e with e; have h10 := (own_lt (show World.ownsRow _ _ 3 1 _ _ _ from HRR.out) q hq).2; have := hbd.size; omega
     ·have e9 : (ps.set k (.slice A8 n8 c8)).getD j default = ps.getD j default := by simp only [List.getD_eq_getElem?_getD]; rw [List.getElem?_set, if_neg (fun e => hjk e.symm)]
      rw [e9]; exact HAP.out j (by rw [stepW_len] at hj ⊢; exact hj) q hq
    have HG7 := ħ hG7
    have HB7 := ħ hB7
    have HO7 := ħ hO7
    have HH7 := ħ hH7
    have HR7 := ħ hR7
    have HA7 := ħ hA7
    have HP7 : Hid (OwnT dWait (w6.setCell ⟨tb, k * 2 + 1, none⟩ (.slice A8 n8 c8)) w.heap.size (.slice (some ⟨tb, 0, none⟩) tn2 tc2) (ps.set k (.slice A8 n8 c8)) (stepW D.wa fr di (k + 1))) := ħ (by rw [HSL.out]; rw [HTN.out] at hP7; exact hP7)
    clear hS hS1 hS2 hS9 hHeld hZ hG7 hB7 hO7 hH7 hR7 hA7 hP7 hr6 hob hb6 hb67 hob6 ho6
    go_wp2_with fail
    (first | (go_round; (case rel => exact ⟨k + 1, ps.set k (.slice A8 n8 c8), by omega, by go_num, HG7, HB7, HP7, HA7, HO7, HH7, HR7, hb7⟩); (case measure => (simp [intOf] <;> omega))) | (go_roundw; (case rel => exact ⟨k + 1, ps.set k (.slice A8 n8 c8), by omega, by go_num, HG7, HB7, HP7, HA7, HO7, HH7, HR7, hb7⟩); (case measure => (simp [intOf] <;> omega))) | (refine ⟨?_, by simp [intOf] <;> omega⟩; (repeat apply Exists.intro); refine ⟨?rel, ?fr⟩; (case fr => ((repeat' apply And.intro) <;> rfl)); (case rel => exact ⟨k + 1, ps.set k (.slice A8 n8 c8), by omega, by go_num, HG7, HB7, HP7, HA7, HO7, HH7, HR7, hb7⟩)))
   ·skip
    have hde : decide ((wth D.wa k).di = di) = false := by simp [hd]
    have hs9 : stepW D.wa fr di (k + 1) = stepW D.wa fr di k := stepW_skip hd
    have HSL := ħ hs9
    have HDD := ħ hd
    clear hs9 fg hd
    have hde2 : ((wth D.wa k).di == di) = false := by simp [HDD.out]
    go_upto_region 15 with fail
    obtain ⟨S5, hSd5⟩ : ∃ S : World → Prop, S = fun Q => Q.cell? ⟨gs, 6, none⟩ = some (.slice (some ⟨tb, 0, none⟩) tn2 tc2) ∧ Q.cell? ⟨gm, 3, none⟩ = some (.int .i64 di) ∧ Q.cell? ⟨tb, k * 2, none⟩ = some (.int .i64 (wth D.wa k).di) := ⟨_, rfl⟩
    have hS51 : ∀ Q, S5 Q → Q.cell? ⟨gs, 6, none⟩ = some (.slice (some ⟨tb, 0, none⟩) tn2 tc2) := fun Q h => by rw [hSd5] at h; exact h.1
    have hS52 : ∀ Q, S5 Q → Q.cell? ⟨gm, 3, none⟩ = some (.int .i64 di) := fun Q h => by rw [hSd5] at h; exact h.2.1
    have hS53 : ∀ Q, S5 Q → Q.cell? ⟨tb, k * 2, none⟩ = some (.int .i64 (wth D.wa k).di) := fun Q h => by rw [hSd5] at h; exact h.2.2
    have hbd5 : Below wk.heap.size wk wk.drew := bel_drew (Below.refl _ _)
    have hS50 : S5 wk.drew := by rw [hSd5]; exact ⟨(hbd5.cell (p := ⟨gs, 6, none⟩) hgk).trans g6, (hbd5.cell (p := ⟨gm, 3, none⟩) hml).trans m3, (hbd5.cell (p := ⟨tb, k * 2, none⟩) htb2).trans q0⟩
    clear hSd5
    refine wp_region_held_drew (S := S5) (by kernel_rfl) hS50 (fun hHeld => ?_)
    have HBD5 := ħ hbd5
    clear hS50 hbd5
    generalize wk.drew = Z5 at *
    (refine wpAnyH_tk 0 (some 68) (v := ?_) rfl rfl ?_ ?_; rotate_left; (focus (intro wq hSw; clear hSw; go_simp; all_goals (with_reducible rfl))); simp only [lz])
    (refine wpAnyH_tk 1 (some 69) (v := ?_) rfl rfl ?_ ?_; rotate_left; (focus (intro wq hSw; clear hSw; go_simp; all_goals (with_reducible rfl))); simp only [lz])
    (refine wpAnyH_tk 2 (some 70) (v := ?_) rfl rfl ?_ ?_; rotate_left; (focus (intro wq hSw; clear hSw; go_simp; all_goals (with_reducible rfl))); simp only [lz])
    (refine wpAnyH_tk 3 (some 71) (v := ?_) rfl rfl ?_ ?_; rotate_left; (focus (intro wq hSw; clear hSw; go_simp; all_goals (with_reducible rfl))); simp only [lz])
    (refine wpAnyH_tk 4 (some 72) (v := ?_) rfl rfl ?_ ?_; rotate_left; (focus (intro wq hSw; have q1 := hS51 wq hSw; clear hSw; go_simp; all_goals (with_reducible rfl))); simp only [lz])
    (refine wpAnyH_tk 5 (some 73) (v := ?_) rfl rfl ?_ ?_; rotate_left; (focus (intro wq hSw; clear hSw; go_simp; all_goals (with_reducible rfl))); simp only [lz])
    (refine wpAnyH_tk 6 (some 74) (v := ?_) rfl rfl ?_ ?_; rotate_left; (focus (intro wq hSw; clear hSw; go_simp; all_goals (with_reducible rfl))); simp only [lz])
    (refine wpAnyH_tk 7 (some 75) (v := ?_) rfl rfl ?_ ?_; rotate_left; (focus (intro wq hSw; clear hSw; go_simp; all_goals (with_reducible rfl))); simp only [lz])
    (refine wpAnyH_tk 8 (some 76) (v := ?_) rfl rfl ?_ ?_; rotate_left; (focus (intro wq hSw; have q1 := hS53 wq hSw; clear hSw; go_simp; all_goals (with_reducible rfl))); simp only [lz])
    (refine wpAnyH_tk 9 (some 77) (v := ?_) rfl rfl ?_ ?_; rotate_left; (focus (intro wq hSw; clear hSw; go_simp; all_goals (with_reducible rfl))); simp only [lz])
    (refine wpAnyH_tk 10 (some 78) (v := ?_) rfl rfl ?_ ?_; rotate_left; (focus (intro wq hSw; have q1 := hS52 wq hSw; clear hSw; go_simp; all_goals (with_reducible rfl))); simp only [lz])
    (refine wpAnyH_tk 11 (some 79) (v := ?_) rfl rfl ?_ ?_; rotate_left; (focus (intro wq hSw; clear hSw; go_simp; all_goals (with_reducible rfl))); simp only [lz])
    refine wpAnyH_done (by kernel_rfl) ?_ _
    clear hS51 hS52 hS53 hHeld
    have HGS := ħ (HGS.out.up HBD5.out)
    have HBK := ħ (HBK.out.up HBD5.out)
    have HTK := ħ (HTK.out.up HBD5.out)
    have HOP := ħ (OwnX.up HOP.out HBD5.out)
    have HHE := ħ (HHE.out.up HBD5.out)
    have HRR := ħ (HRR.out.up HBD5.out)
    have hbut := bel_trans hbut HBD5.out
    have htb2 := Nat.lt_of_lt_of_le htb2 HBD5.out.size
    have HROW := ħ (own_up HROW.out HBD5.out)
    clear g6 q0 m3 hgk hml
    go_wp2_with fail
    (first | (go_round; (case rel => exact ⟨k + 1, ps, by omega, by go_num, HGS, HBK, by (rw [HSL.out]; exact HTK), by (rw [HSL.out]; exact HAP), HOP, HHE, HRR, hbut⟩); (case measure => (simp [intOf] <;> omega))) | (go_roundw; (case rel => exact ⟨k + 1, ps, by omega, by go_num, HGS, HBK, by (rw [HSL.out]; exact HTK), by (rw [HSL.out]; exact HAP), HOP, HHE, HRR, hbut⟩); (case measure => (simp [intOf] <;> omega))) | (refine ⟨?_, by simp [intOf] <;> omega⟩; (repeat apply Exists.intro); refine ⟨?rel, ?fr⟩; (case fr => ((repeat' apply And.intro) <;> rfl)); (case rel => exact ⟨k + 1, ps, by omega, by go_num, HGS, HBK, by (rw [HSL.out]; exact HTK), by (rw [HSL.out]; exact HAP), HOP, HHE, HRR, hbut⟩)))
  ·skip
   obtain rfl : tn2 = k := by omega
   have hse : stepW D.wa fr di tn2 = ackW D.wa fr di := stepW_end (by rw [HTN.out])
   rw [hse] at HTK HAP
   have hrl := HRE.out
   have HRI2 := ħ (ackW_rise (d := di) HRI.out HFR.out.1 HFR.out.2)
   have HBG2 := ħ (ackW_big (who := fr) (d := di) HBW.out (fun x hx => Nat.le_trans (HAK.out x hx) (by decide)))
   have HRL : Hid (D.re.length + (ackW D.wa fr di).length ≤ 800000000) := ħ (by rw [ackW_len]; exact hrl)
   clear hrl hse
   go_wp2_with (go_at_call 87; refine (ref13_kept gs w.heap.size oA2 tA2 eA2 rA2 none on2 oc2 tn2 tc2 en2 ec2 rn2 rc2 0 0 ({ D with wa := ackW D.wa fr di } : WorkD) ps _ HGS.out hbut.size HTK.out HRR.out HAP.out HBG2.out HRL.out HRI2.out HNS.out).mono ?_; rintro e w9 ⟨A1, m1, c1, A2, m2, c2, rfl, hG9, hK9, hW9, hR9⟩)
   have hH9 := OwnT.kbW hK9 HHE.out HGS.out (show World.ownsRow _ _ 3 1 _ _ _ from HRR.out) rfl
   have hX9 : OwnX w9 w.heap.size (.slice oA2 on2 oc2) D.op := hK9.own (show World.ownsRow _ _ 41 4 _ _ _ from HOP.out) (own_neT (show World.ownsRow _ _ 41 4 _ _ _ from HOP.out) HGS.out (by decide)) (fun q e => own_neO (show World.ownsRow _ _ 41 4 _ _ _ from HOP.out) (show World.ownsRow _ _ 3 1 _ _ _ from HRR.out) (by decide) q e)
   have hb9 : Below w.heap.size w w9 := hbut.trans (kb_below hK9 hbut.size (by omega) (fun q e => (own_lt (show World.ownsRow _ _ 3 1 _ _ _ from HRR.out) q e).1))
   have hgk2 := hG9.lt
   exact bodyPost_ret (v := .tuple #[.pointer (some ⟨gs, 0, none⟩), .int .i64 0]) (by simp [results, Tryz.results49, go_sem]) rfl ⟨gs, ⟨⟨oA2, on2, oc2⟩, ⟨A1, m1, c1⟩, ⟨eA2, en2, ec2⟩, ⟨A2, m2, c2⟩⟩, none, 0, 0, [], rfl, hG9, ⟨hX9, hW9, hH9, hR9⟩, OwnT.nil _ _, by omega, hb9⟩
open Go.RowKit

theorem msg_from {M : MsgD} {n : Int} (h : msgB M n = true) : 1 ≤ M.fr ∧ M.fr ≤ n := by
 have h1 := ((msgB_iff (y := true) h).1 rfl).1
 unfold hdM at h1
 exact ⟨h1.2.1, h1.2.2.1⟩
theorem toldD_big {D : WorkD} (hs : SmallT D) (who d : Int) : BigD (toldD D who d) ∧ ((toldD D who d).op.length ≤ 1000000 ∧ (toldD D who d).wa.length ≤ 1000000 ∧ (toldD D who d).he.length ≤ 1000000 ∧ (toldD D who d).re.length ≤ 1000000 ∧ (∀ x ∈ (toldD D who d).wa, x.ak.length ≤ 1000000) ∧ (∀ x ∈ (toldD D who d).he, x.b.tx.length ≤ 1000000)) := by
 have main : (toldD D who d).op.length ≤ 1000000 ∧ (toldD D who d).wa.length ≤ 1000000 ∧ (toldD D who d).he.length ≤ 1000000 ∧ (toldD D who d).re.length ≤ 1000000 ∧ (∀ x ∈ (toldD D who d).wa, x.ak.length ≤ 1000000) ∧ (∀ x ∈ (toldD D who d).he, x.b.tx.length ≤ 1000000) := by
  have hwl : (ackW D.wa who d).length ≤ 20000 := by rw [ackW_len]; exact hs.wa
  refine ⟨Nat.le_trans hs.op (by decide), ?_, Nat.le_trans hs.he (by decide), ?_, fun x hx => ?_, fun x hx => Nat.le_trans (hs.hx x hx) (by decide)⟩
  ·show (keptW D.nodes (ackW D.wa who d)).length ≤ _
   exact Nat.le_trans (Nat.le_trans (List.length_filter_le _ _) hwl) (by decide)
  ·show (keptR D.nodes D.re (ackW D.wa who d)).length ≤ _
   have := keptR_len D.nodes (ackW D.wa who d) D.re
   have := hs.re
   omega
  ·have hx2 : x ∈ ackW D.wa who d := (List.mem_filter.1 (show x ∈ List.filter _ _ from hx)).1
   rcases ackW_mem hx2 with hx3 | ⟨y, hy, rfl⟩
   ·exact Nat.le_trans (hs.ak x hx3) (by decide)
   ·have := ackI_len y.ak who
    have := hs.ak y hy
    show (ackI y.ak who).length ≤ _
    omega
 exact ⟨⟨Nat.le_trans main.1 (by decide), ⟨Nat.le_trans main.2.1 (by decide), fun x hx => Nat.le_trans (main.2.2.2.2.1 x hx) (by decide)⟩, ⟨Nat.le_trans main.2.2.1 (by decide), fun x hx => Nat.le_trans (main.2.2.2.2.2 x hx) (by decide)⟩, Nat.le_trans main.2.2.2.1 (by decide)⟩, main⟩
theorem take2 {D : WorkD} (hs : SmallT D) (h4 : TakesK 2) : TakeC D 2 (fun M => toldD D M.fr M.di) (fun _ => []) where
 ref := fun P Pm M w h hp hm hki h1 h2 h3 => ref13_Take2 P D Pm M w h hs.big hp (fun x hx => Nat.le_trans (hs.ak x hx) (by decide)) (by have := hs.re; have := hs.wa; omega) (msg_from h2) hki (by rw [hki]; exact h4) h1 h2 h3
 prog := fun P Pm M B w h hB hp hm hki h1 h2 h3 => worker_Got2 P D Pm M B w h hs.big (fun x hx => Nat.le_trans (hs.ak x hx) (by decide)) (by have := hs.re; have := hs.wa; omega) (msg_from h2) hB h1 hki
 big := fun M hm hki h1 h2 => ⟨(toldD_big hs M.fr M.di).1, (toldD_big hs M.fr M.di).2, by simp, fun x hx => by cases hx⟩
set_option maxHeartbeats 2000000 in
theorem law_WorkerTold (P : JScrP) (D : JScrD) (w : World) (h : JScrR w P D) :
  Calls Tryz.prog 11 #[P.val D] w fun e w' => e = .returned (.bool true) ∧ Below w.heap.size w w' := by
 have H := ħ h
 clear h
 show Calls Tryz.prog 11 #[.agg #[.int .i64 D.w.id, .int .i64 D.w.nodes, .int .i64 D.w.next, .slice P.w.op.A P.w.op.n P.w.op.c, .int .i64 D.w.age, .int .i64 D.w.clock, .slice P.w.wa.A P.w.wa.n P.w.wa.c, .slice P.w.he.A P.w.he.n P.w.he.c, .slice P.w.re.A P.w.re.n P.w.re.c, .slice P.l.A P.l.n P.l.c]] w _
 go_enter Tryz.func11, Tryz.ntmps11
 go_wp2_with fail
 have hbX : Below w.heap.size w (w.alloc (.cells #[.int .i64 D.w.id, .int .i64 D.w.nodes, .int .i64 D.w.next, .slice P.w.op.A P.w.op.n P.w.op.c, .int .i64 D.w.age, .int .i64 D.w.clock, .slice P.w.wa.A P.w.wa.n P.w.wa.c, .slice P.w.he.A P.w.he.n P.w.he.c, .slice P.w.re.A P.w.re.n P.w.re.c, .slice P.l.A P.l.n P.l.c] 30)) := belA
 refine (law13_takes P D 2 _ (H.out.up hbX) (fun MP SP a X hX hL ham hkk hM hI => step_do5_light (k := 2) H.out hL MP SP a X ((H.out.wk.up hbX).up hX) ham hkk takesK2 hM (fun hs => take2 hs takesK2))).mono ?_
 rintro e w1 ⟨rfl, hb1⟩
 go_wp2_with fail
 go_ret
 exact ⟨rfl, bel_trans hbX hb1⟩
open Go.ChangeShapes Go.WideShapes Go.ChangeAt Go.RowKit

theorem workerTold_own : ownKnob Tryz.prog.godebug = none := by kernel_rfl
theorem workerTold_laidOut : laidOutB Tryz.prog = true := by kernel_rfl
theorem workerTold_lifted (os : Os) (started : os.Started) (H : Type) (enc : TypeId × Value → H) :
  ReturnsInHanded {} Tryz.checked os 11 .any (Rows.workerToldSpec.pre6 enc Tryz.prog Tryz.f11 Rows.workerToldRow.domain false) (Rows.workerToldSpec.post enc Tryz.prog Tryz.f11 false true false false) := by
 refine returnsInHanded_of_change_sized (C := Tryz.checked) workerTold_own started (by kernel_rfl) Tryz.func11
  (ChangeSpec.witness6 (enc := enc) (C := Tryz.checked) false ⟨#[], #[.agg #[.int .i64 0, .int .i64 0, .int .i64 0, .slice none 0 0, .int .i64 0, .int .i64 0, .slice none 0 0, .slice none 0 0, .slice none 0 0, .slice none 0 0]], []⟩ 8 (by kernel_rfl) (by kernel_rfl) (by kernel_rfl) (by kernel_rfl)) ?_
 intro W base args ds gs before hval0 hW hcnd hsz0 _
 have hval : ∀ (j : Nat) t v, Tryz.f11.params[j]? = some t → args[j]? = some v → Value.okWide Tryz.prog W .any base t v := hval0
 have hW' := hW
 obtain ⟨p, q, hA0, hV, rfl, hfz, hnd⟩ := hW
 have hA : DataW.TrodAll enc Tryz.prog W 0 (fun _ => true) true Tryz.f11.params.toList args.toList ds p := hA0
 have hsz : (DataW.weightsEach Tryz.prog (Tryz.f11.params.toList ++ Rows.workerToldSpec.plain.varTypes Tryz.prog) (ds ++ gs)).all (· ≤ reachBytes) = true := hsz0
 rw [Tryz.params11] at hA hval hsz
 obtain ⟨v0, vs0, d0, ds0, p0, q0, hargs, rfl, rfl, h0, r0⟩ := trodAll_cons hA
 obtain ⟨rfl, rfl, rfl⟩ := trodAll_nil r0
 obtain rfl : args = #[v0] := by cases args; simp_all
 obtain ⟨rfl, rfl⟩ := trodVars_none hV
 have k0 := h0
 have lt0 : ∀ x ∈ p0, x.block < W.heap.size := by obtain ⟨m, hm⟩ := k0; exact DataW.trod_lt m _ _ _ hm
 have hwk : Wok 30 d0 := fun b hb => by
  have := List.all_eq_true.1 hsz b (DataW.weights_mem_each (j := 0) rfl rfl b hb)
  simpa using this
 obtain ⟨P, D, rfl, hR⟩ := open_JScr (hval 0 30 v0 rfl rfl) h0 hwk
 clear hA0 hval0 hsz0
 refine (law_WorkerTold P D W hR).mono fun e W' ⟨he, bel⟩ => ?_
 subst he
 exact ⟨_, rfl, _, _, _, [], _, [], hW', trodAll_mk1 (shut_bool Tryz.underlying4 _), (trodAll_cons_mk (Below.trod workerTold_laidOut (by kernel_rfl) (of_decide_eq_true (by kernel_rfl)) k0 bel lt0) trodAll_mk0), rfl, bel.frame _, fun h => by cases h⟩
theorem workerTold_over : Rows.workerToldRow.holds Tryz.pinned (OpenSpec.ofChange Rows.workerToldSpec) :=
 OpenClaim.holds_of_wide 11 Tryz.f11 rfl rfl rfl rfl rfl rfl rfl ⟨rfl, rfl, rfl, rfl, rfl⟩ rfl rfl rfl rfl rfl (by kernel_rfl) Tryz.func11 (by kernel_rfl)
  (of_decide_eq_true (by kernel_rfl)) (by unfold Func.isWrapper; first | (rw [if_pos (by decide +kernel)]; kernel_rfl) | (rw [if_neg (by decide +kernel)]; exact ⟨rfl, rfl⟩))
  (fun os started H enc _ => workerTold_lifted os started H enc)
/-- The statement. -/
theorem workerTold_proved : Rows.WorkerToldSaid := workerTold_over
#print axioms workerTold_proved
end Go.Proofs.YtgfakefcmbpboaaGreat
