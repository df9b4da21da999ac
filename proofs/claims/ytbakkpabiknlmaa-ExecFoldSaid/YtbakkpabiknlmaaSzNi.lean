/- Tables: Own. -/
import Derived.Test.YtbakkpabiknlmaaSzNh
namespace Go.Proofs.Ytbakkpabiknlmaa
open Go.RowKit
set_option linter.unusedSimpArgs false
set_option linter.unusedVariables false

def Disj (v u : Value) : Prop := ∀ g, v.ownBlock = some g → u.ownBlock ≠ some g
theorem Disj.symm {v u : Value} (h : Disj v u) : Disj u v := fun g h1 h2 => h g h2 h1
theorem disj_later {w w' : World} {B B' k k' n n' : Nat} {t t' : TypeId} {v u : Value} {xs ys : List Value} (h : w.ownsRow B t k v n xs) (h' : w'.ownsRow B' t' k' u n' ys) (hB : w.heap.size ≤ B') : Disj v u := fun g h1 h2 => by
  have := (own_lt h g h1).2
  have := (own_lt h' g h2).1
  omega
theorem own_setD {w : World} {B k n : Nat} {t : TypeId} {v : Value} {xs : List Value} (h : w.ownsRow B t k v n xs) {b o : Nat} (hp : v.ownBlock ≠ some b) (u : Value) : (w.setCell ⟨b, o, none⟩ u).ownsRow B t k v n xs := own_of_heap h fun g hg => Below.heap_setCell _ _ _ _ (fun e => hp (by rw [hg, e]))
theorem own_grown {w w' : World} {B k n : Nat} {t : TypeId} {v u : Value} {xs : List Value} (h : w.ownsRow B t k v n xs) (hg : w.grownBy w' u.ownBlock) (hd : Disj v u) : w'.ownsRow B t k v n xs := own_of_heap h fun g hgg => hg.block g (own_lt h g hgg).2 (fun e => hd g hgg e.symm)
theorem Blk.grown2 {w w' : World} {g : Nat} {t : TypeId} {cs : List Value} {u : Value} (h : Blk w g t cs) (hb : w.grownBy w' u.ownBlock) (hne : u.ownBlock ≠ some g) : Blk w' g t cs := h.of_heap (hb.block g h.lt (fun e => hne e.symm))
set_option maxRecDepth 100000 in
set_option maxHeartbeats 2000000 in
theorem table_Own (A : Option Addr) (n c : Nat) (l : List PairD) (B : Option Addr) (m d : Nat) (q : List AcctD) (w : World) (hl : PairsR w A n l) (hq : AcctsR w B m q) (hn : n ≤ 900000000) (hm : m ≤ 900000000) :
    Calls Try.prog 40 #[.agg #[.slice A n c, .slice B m d]] w fun e w' => ∃ vp va, e = .returned (.agg #[vp, va]) ∧ OwnP w' w.heap.size vp l ∧ OwnA w' w.heap.size va q ∧ Disj vp va ∧ Below w.heap.size w w' := by
  have HL := Lib.hid hl
  have HQ := Lib.hid hq
  clear hl hq
  go_enter Try.func40, Try.ntmps40
  go_upto_region 1 with fail
  go_cut [] from 3 to 10 (fun wx => ∃ vp va, Blk wx w.heap.size 25 [vp, va] ∧ Blk wx (w.heap.size + 1) 25 [.slice none 0 0, .slice none 0 0] ∧ OwnP wx w.heap.size vp l ∧ OwnA wx w.heap.size va q ∧ Disj vp va ∧ vp.ownBlock ≠ some (w.heap.size + 1) ∧ va.ownBlock ≠ some (w.heap.size + 1) ∧ Below w.heap.size w wx)
  case first =>
    have hX1 : Blk ((w.alloc (.cells #[.slice A n c, .slice B m d] 25)).alloc (.cells #[.slice none 0 0, .slice none 0 0] 25)) w.heap.size 25 [.slice A n c, .slice B m d] := (Blk.new w 25 [.slice A n c, .slice B m d]).up (by (repeat (first | (with_reducible exact Below.refl _ _) | (with_reducible assumption) | (with_reducible apply bel_alloc) | (with_reducible apply bel_drew) | (with_reducible apply bel_drewN) | (with_reducible refine bel_trans ?_ (by with_reducible assumption)) | (with_reducible refine bel_trans ?_ (HF.out _)) | (with_reducible refine bel_set ?_ (by simp) _) | (with_reducible refine bel_set ?_ (by simp; omega) _) | (with_reducible refine bel_set ?_ (by omega) _))))
    have hX2 : Blk ((w.alloc (.cells #[.slice A n c, .slice B m d] 25)).alloc (.cells #[.slice none 0 0, .slice none 0 0] 25)) (w.heap.size + 1) 25 [.slice none 0 0, .slice none 0 0] := by
      have := Blk.new (w.alloc (.cells #[.slice A n c, .slice B m d] 25)) 25 [.slice none 0 0, .slice none 0 0]
      simpa using this
    have hbX : Below w.heap.size w ((w.alloc (.cells #[.slice A n c, .slice B m d] 25)).alloc (.cells #[.slice none 0 0, .slice none 0 0] 25)) := by (repeat (first | (with_reducible exact Below.refl _ _) | (with_reducible assumption) | (with_reducible apply bel_alloc) | (with_reducible apply bel_drew) | (with_reducible apply bel_drewN) | (with_reducible refine bel_trans ?_ (by with_reducible assumption)) | (with_reducible refine bel_trans ?_ (HF.out _)) | (with_reducible refine bel_set ?_ (by simp) _) | (with_reducible refine bel_set ?_ (by simp; omega) _) | (with_reducible refine bel_set ?_ (by omega) _)))
    have hzX : ((w.alloc (.cells #[.slice A n c, .slice B m d] 25)).alloc (.cells #[.slice none 0 0, .slice none 0 0] 25)).heap.size = w.heap.size + 2 := by simp
    generalize ((w.alloc (.cells #[.slice A n c, .slice B m d] 25)).alloc (.cells #[.slice none 0 0, .slice none 0 0] 25)) = X at *
    have hg0 := hX1.box.2 0 _ rfl
    have hg1 := hX1.box.2 1 _ rfl
    have hff := hX1.frozen
    have HX1 := Lib.hid hX1
    have HX2 := Lib.hid hX2
    clear hX1 hX2
    go_region_with (first
      | (go_at_call 60; refine (slices_Clone_Pair A n c (flat encP l) _ (HL.out.2.up (by (repeat (first | (with_reducible exact Below.refl _ _) | (with_reducible assumption) | (with_reducible apply bel_alloc) | (with_reducible apply bel_drew) | (with_reducible apply bel_drewN) | (with_reducible refine bel_trans ?_ (by with_reducible assumption)) | (with_reducible refine bel_trans ?_ (HF.out _)) | (with_reducible refine bel_set ?_ (by simp) _) | (with_reducible refine bel_set ?_ (by simp; omega) _) | (with_reducible refine bel_set ?_ (by omega) _))))) (flat_oneCell encP_one l) hn).mono ?_; rintro e wp ⟨vp, rfl, hownP, hbP⟩; obtain ⟨Ap, cp, rfl, _, _, _, _⟩ := own_row hownP (by omega); have hzP := hbP.size; (try simp at hzP); have hcP := fun o => (bcell hbP).1 w.heap.size o (by first | (simp; done) | (simp; omega) | omega); have hfP := fun o => (bcell hbP).2 w.heap.size o (by first | (simp; done) | (simp; omega) | omega))
      | (go_at_call 61; refine (slices_Clone_Acct B m d (flat encA q) _ (HQ.out.2.up (by (repeat (first | (with_reducible exact Below.refl _ _) | (with_reducible assumption) | (with_reducible apply bel_alloc) | (with_reducible apply bel_drew) | (with_reducible apply bel_drewN) | (with_reducible refine bel_trans ?_ (by with_reducible assumption)) | (with_reducible refine bel_trans ?_ (HF.out _)) | (with_reducible refine bel_set ?_ (by simp) _) | (with_reducible refine bel_set ?_ (by simp; omega) _) | (with_reducible refine bel_set ?_ (by omega) _))))) (flat_oneCell encA_one q) hm).mono ?_; rintro e wa ⟨va, rfl, hownA, hbA⟩; obtain ⟨Aa, ca, rfl, _, _, _, _⟩ := own_row hownA (by omega); have hzA := hbA.size; (try simp at hzA); have hcA := fun o => (bcell hbA).1 w.heap.size o (by first | (simp; done) | (simp; omega) | omega); have hfA := fun o => (bcell hbA).2 w.heap.size o (by first | (simp; done) | (simp; omega) | omega)))
    all_goals
      go_wp2_with fail
      go_meet
      have hb1 : Below X.heap.size X wa := by (repeat (first | (with_reducible exact Below.refl _ _) | (with_reducible assumption) | (with_reducible apply bel_alloc) | (with_reducible apply bel_drew) | (with_reducible apply bel_drewN) | (with_reducible refine bel_trans ?_ (by with_reducible assumption)) | (with_reducible refine bel_trans ?_ (HF.out _)) | (with_reducible refine bel_set ?_ (by simp) _) | (with_reducible refine bel_set ?_ (by simp; omega) _) | (with_reducible refine bel_set ?_ (by omega) _)))
      have hX1a := ((HX1.out.up hb1).set_ 0 (.slice Ap n cp)).set_ 1 (.slice Aa m ca)
      have hX2a := ((HX2.out.up hb1).far (p := ⟨w.heap.size, 0, none⟩) (by simp) (.slice Ap n cp)).far (p := ⟨w.heap.size, 1, none⟩) (by simp) (.slice Aa m ca)
      have hP2 := own_set (own_set (own_up hownP hbA) (p := ⟨w.heap.size, 0, none⟩) (by first | omega | (simp; omega)) (.slice Ap n cp)) (p := ⟨w.heap.size, 1, none⟩) (by first | omega | (simp; omega)) (.slice Aa m ca)
      have hA2 := own_set (own_set hownA (p := ⟨w.heap.size, 0, none⟩) (by first | omega | (simp; omega)) (.slice Ap n cp)) (p := ⟨w.heap.size, 1, none⟩) (by first | omega | (simp; omega)) (.slice Aa m ca)
      refine ⟨.slice Ap n cp, .slice Aa m ca, hX1a, hX2a, ?_, ?_, disj_later hownP hownA (Nat.le_refl _), fun e => (by have := (own_lt hP2 _ e).1; first | omega | (simp at this; omega)), fun e => (by have := (own_lt hA2 _ e).1; first | omega | (simp at this; omega)), by (repeat (first | (with_reducible exact Below.refl _ _) | (with_reducible assumption) | (with_reducible apply bel_alloc) | (with_reducible apply bel_drew) | (with_reducible apply bel_drewN) | (with_reducible refine bel_trans ?_ (by with_reducible assumption)) | (with_reducible refine bel_trans ?_ (HF.out _)) | (with_reducible refine bel_set ?_ (by simp) _) | (with_reducible refine bel_set ?_ (by simp; omega) _) | (with_reducible refine bel_set ?_ (by omega) _)))⟩
      · unfold OwnP; rw [HL.out.1]; exact own_mono hP2 (by first | omega | (simp; omega))
      · unfold OwnA; rw [HQ.out.1]; exact own_mono hA2 (by first | omega | (simp; omega))
  case rest =>
  obtain ⟨vp, va, hx1, hx2, hp, ha, hd, hnp, hna, hb⟩ := hcut
  have g0 := hx1.box.2 0 _ rfl
  have g1 := hx1.box.2 1 _ rfl
  have k0 := hx2.box.2 0 _ rfl
  have k1 := hx2.box.2 1 _ rfl
  have kf := hx2.frozen
  have HP := Lib.hid hp
  have HA := Lib.hid ha
  have HD := Lib.hid hd
  have hx2l := hx2.lt
  obtain ⟨Ap, cp, rfl, _⟩ := own_row hp (by have := HL.out.1; omega)
  obtain ⟨Aa, ca, rfl, _⟩ := own_row ha (by have := HQ.out.1; omega)
  have hdp : (Value.slice Ap l.length cp).ownBlock ≠ some (w.heap.size + 1) := hnp
  have hda : (Value.slice Aa q.length ca).ownBlock ≠ some (w.heap.size + 1) := hna
  have hR := (hx2.set_ 0 (.slice Ap l.length cp)).set_ 1 (.slice Aa q.length ca)
  have r0 := hR.box.2 0 _ rfl
  have r1 := hR.box.2 1 _ rfl
  clear hp ha hd hnp hna hR
  go_wp2_with fail
  exact bodyPost_ret (v := .agg #[.slice Ap l.length cp, .slice Aa q.length ca]) (by simp [results, Try.results40, go_sem, r0, r1, k0, k1]) rfl ⟨_, _, rfl, own_setD (own_setD HP.out hdp _) hdp _, own_setD (own_setD HA.out hda _) hda _, HD.out, by (repeat (first | (with_reducible exact Below.refl _ _) | (with_reducible assumption) | (with_reducible apply bel_alloc) | (with_reducible apply bel_drew) | (with_reducible apply bel_drewN) | (with_reducible refine bel_trans ?_ (by with_reducible assumption)) | (with_reducible refine bel_trans ?_ (HF.out _)) | (with_reducible refine bel_set ?_ (by simp) _) | (with_reducible refine bel_set ?_ (by simp; omega) _) | (with_reducible refine bel_set ?_ (by omega) _)))⟩
end Go.Proofs.Ytbakkpabiknlmaa
