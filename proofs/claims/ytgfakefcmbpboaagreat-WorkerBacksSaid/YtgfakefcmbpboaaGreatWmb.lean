/- worker.In: numbers put in front. -/
import Derived.Test.YtgfakefcmbpboaaGreatWt
import Derived.Test.YtgfakefcmbpboaaGreatWi
namespace Go.Proofs.YtgfakefcmbpboaaGreat
open Go.RowKit
set_option linter.unusedSimpArgs false
set_option linter.unusedVariables false

def stF (re acc : List Int) (d : Int) : List Int := if digS d = true ∧ memS re d = false ∧ memS acc d = false then acc ++ [d] else acc
def fsF (re l : List Int) : List Int := l.foldl (stF re) []
theorem blk_low7 {B g : Nat} {a b c d : World} {o : Obj} {t : TypeId} {cs : List Value} (h : Blk a g t cs) (hg : g < B) (h5 : Below a.heap.size a b) (h6 : Below b.heap.size b c) (h7 : Below B (c.alloc o) d) : Blk d g t cs := (((h.up h5).up h6).up (bel_alloc (Below.refl _ _))).below h7 hg
theorem fsF_take (re l : List Int) {k : Nat} (hk : k < l.length) : fsF re (l.take (k + 1)) = stF re (fsF re (l.take k)) (nth l k) := by
  unfold fsF; rw [take_nth l k hk, List.foldl_append]; rfl
theorem stF_len (re acc : List Int) (d : Int) : (stF re acc d).length ≤ acc.length + 1 := by
  unfold stF; split <;> simp
theorem fsF_len (re l : List Int) : ∀ k, k ≤ l.length → (fsF re (l.take k)).length ≤ k
  | 0, _ => by simp [fsF]
  | k + 1, h => by
    rw [fsF_take re l (by omega)]
    have h1 := stF_len re (fsF re (l.take k)) (nth l k)
    have h2 := fsF_len re l k (by omega)
    omega
def inW (D : WorkD) (l : List Int) : WorkD := { D with re := fsF D.re l ++ D.re }
set_option maxRecDepth 100000 in
set_option maxHeartbeats 4000000 in
theorem worker_In (P : WorkP) (D : WorkD) (A : Option Addr) (n c : Nat) (l : List Int) (w : World) (h : WorkR w P D) (hl : IntsR w A n l) (hn : n ≤ 1000000) (hr : D.re.length ≤ 1000000) :
    Calls Tryz.prog 104 #[P.val D, .slice A n c] w fun e w' => ∃ s : SlP, e = .returned (WorkP.val ⟨P.op, P.wa, P.he, s⟩ (inW D l)) ∧ OwnI w' w.heap.size s.v (fsF D.re l ++ D.re) ∧ Below w.heap.size w w' := by
  have H := Lib.hid h
  obtain ⟨⟨oA, on, oc⟩, ⟨tA, tn, tc⟩, ⟨eA, en, ec⟩, ⟨rA, rn, rc⟩⟩ := P
  have HL := Lib.hid hl
  have HLN : Hid (l.length = n) := Lib.hid hl.1
  have HRE : Hid (IntsR w rA rn D.re) := Lib.hid h.re
  have hrn : rn ≤ 1000000 := by have e := h.re.1; show rn ≤ _; have e2 : D.re.length = rn := e; omega
  clear h hl hr
  show Calls Tryz.prog 104 #[.agg #[.int .i64 D.id, .int .i64 D.nodes, .int .i64 D.next, .slice oA on oc, .int .i64 D.age, .int .i64 D.clock, .slice tA tn tc, .slice eA en ec, .slice rA rn rc], .slice A n c] w _
  go_enter Tryz.func104, Tryz.ntmps104
  go_wp2_with fail
  have hX1 : Blk ((w.alloc (.cells #[.int .i64 D.id, .int .i64 D.nodes, .int .i64 D.next, .slice oA on oc, .int .i64 D.age, .int .i64 D.clock, .slice tA tn tc, .slice eA en ec, .slice rA rn rc] 27)).alloc (.cells #[.int .i64 0, .int .i64 0, .int .i64 0, .slice none 0 0, .int .i64 0, .int .i64 0, .slice none 0 0, .slice none 0 0, .slice none 0 0] 27)) w.heap.size 27 [.int .i64 D.id, .int .i64 D.nodes, .int .i64 D.next, .slice oA on oc, .int .i64 D.age, .int .i64 D.clock, .slice tA tn tc, .slice eA en ec, .slice rA rn rc] := (Blk.new w 27 [.int .i64 D.id, .int .i64 D.nodes, .int .i64 D.next, .slice oA on oc, .int .i64 D.age, .int .i64 D.clock, .slice tA tn tc, .slice eA en ec, .slice rA rn rc]).up (by (repeat (first | (with_reducible exact Below.refl _ _) | (with_reducible assumption) | (with_reducible apply bel_alloc) | (with_reducible apply bel_drew) | (with_reducible apply bel_drewN) | (with_reducible refine bel_trans ?_ (by with_reducible assumption)) | (with_reducible refine bel_trans ?_ (HF.out _)) | (with_reducible refine bel_set ?_ (by simp) _) | (with_reducible refine bel_set ?_ (by simp; omega) _) | (with_reducible refine bel_set ?_ (by omega) _))))
  have hX3 : Blk ((w.alloc (.cells #[.int .i64 D.id, .int .i64 D.nodes, .int .i64 D.next, .slice oA on oc, .int .i64 D.age, .int .i64 D.clock, .slice tA tn tc, .slice eA en ec, .slice rA rn rc] 27)).alloc (.cells #[.int .i64 0, .int .i64 0, .int .i64 0, .slice none 0 0, .int .i64 0, .int .i64 0, .slice none 0 0, .slice none 0 0, .slice none 0 0] 27)) (w.heap.size + 1) 27 [.int .i64 0, .int .i64 0, .int .i64 0, .slice none 0 0, .int .i64 0, .int .i64 0, .slice none 0 0, .slice none 0 0, .slice none 0 0] := by
    have := Blk.new (w.alloc (.cells #[.int .i64 D.id, .int .i64 D.nodes, .int .i64 D.next, .slice oA on oc, .int .i64 D.age, .int .i64 D.clock, .slice tA tn tc, .slice eA en ec, .slice rA rn rc] 27)) 27 [.int .i64 0, .int .i64 0, .int .i64 0, .slice none 0 0, .int .i64 0, .int .i64 0, .slice none 0 0, .slice none 0 0, .slice none 0 0]
    simpa using this
  have hbX : Below w.heap.size w ((w.alloc (.cells #[.int .i64 D.id, .int .i64 D.nodes, .int .i64 D.next, .slice oA on oc, .int .i64 D.age, .int .i64 D.clock, .slice tA tn tc, .slice eA en ec, .slice rA rn rc] 27)).alloc (.cells #[.int .i64 0, .int .i64 0, .int .i64 0, .slice none 0 0, .int .i64 0, .int .i64 0, .slice none 0 0, .slice none 0 0, .slice none 0 0] 27)) := by (repeat (first | (with_reducible exact Below.refl _ _) | (with_reducible assumption) | (with_reducible apply bel_alloc) | (with_reducible apply bel_drew) | (with_reducible apply bel_drewN) | (with_reducible refine bel_trans ?_ (by with_reducible assumption)) | (with_reducible refine bel_trans ?_ (HF.out _)) | (with_reducible refine bel_set ?_ (by simp) _) | (with_reducible refine bel_set ?_ (by simp; omega) _) | (with_reducible refine bel_set ?_ (by omega) _)))
  generalize ((w.alloc (.cells #[.int .i64 D.id, .int .i64 D.nodes, .int .i64 D.next, .slice oA on oc, .int .i64 D.age, .int .i64 D.clock, .slice tA tn tc, .slice eA en ec, .slice rA rn rc] 27)).alloc (.cells #[.int .i64 0, .int .i64 0, .int .i64 0, .slice none 0 0, .int .i64 0, .int .i64 0, .slice none 0 0, .slice none 0 0, .slice none 0 0] 27)) = X at *
  have HX1 := Lib.hid hX1
  have HX3 := Lib.hid hX3
  clear hX1 hX3
  go_loopw [5, 10] (fun v ix wr => ∃ k : Nat, k ≤ n ∧ ix = .int .i64 k ∧ Hid (OwnI wr (w.heap.size + 2) v (fsF D.re (l.take k))) ∧ Hid (Blk wr w.heap.size 27 [.int .i64 D.id, .int .i64 D.nodes, .int .i64 D.next, .slice oA on oc, .int .i64 D.age, .int .i64 D.clock, .slice tA tn tc, .slice eA en ec, .slice rA rn rc]) ∧ Hid (Blk wr (w.heap.size + 1) 27 [.int .i64 0, .int .i64 0, .int .i64 0, .slice none 0 0, .int .i64 0, .int .i64 0, .slice none 0 0, .slice none 0 0, .slice none 0 0]) ∧ Below w.heap.size w wr) (fun _ ix _ => n - (intOf ix).toNat)
  case atStart => exact ⟨0, Nat.zero_le _, rfl, Lib.hid (OwnI.nil _ _), HX1, HX3, hbX⟩
  case round =>
    clear HX1 HX3 hbX X
    obtain ⟨k, hk, rfl, HF, HB, HZ, hbw⟩ := hrel
    (obtain ⟨wk, hwk⟩ : ∃ x, x = wr := ⟨_, rfl⟩); subst hwk
    have hfl := fsF_len D.re l k (by rw [HLN.out]; exact hk)
    obtain ⟨acc, hacc⟩ : ∃ a, fsF D.re (l.take k) = a := ⟨_, rfl⟩
    rw [hacc] at HF hfl
    obtain ⟨fA, fc, e, hI, hfB⟩ := HF.out.ints (by omega)
    subst e
    obtain ⟨fn, hfn⟩ : ∃ x, acc.length = x := ⟨_, rfl⟩
    rw [hfn] at HF hI hfl ⊢
    have HFI := Lib.hid hI
    have HFN := Lib.hid hfn
    have HAC := Lib.hid hacc
    have lb := HZ.out.lt
    clear hI hfn hfB hacc
    have a_0 := (HB.out.box).2 0 _ rfl; have a_1 := (HB.out.box).2 1 _ rfl; have a_2 := (HB.out.box).2 2 _ rfl; have a_3 := (HB.out.box).2 3 _ rfl; have a_4 := (HB.out.box).2 4 _ rfl; have a_5 := (HB.out.box).2 5 _ rfl; have a_6 := (HB.out.box).2 6 _ rfl; have a_7 := (HB.out.box).2 7 _ rfl; have a_8 := (HB.out.box).2 8 _ rfl
    by_cases hlt : k < n
    · obtain ⟨b, off, rfl, hb, hc⟩ := (HL.out.up hbw).2.2 (by omega)
      have hck := hc k hlt
      obtain ⟨d, hd⟩ : ∃ d, nth l k = d := ⟨_, rfl⟩
      rw [hd] at hck
      have HST : Hid (fsF D.re (l.take (k + 1)) = stF D.re acc d) := Lib.hid (by rw [fsF_take _ _ (by rw [HLN.out]; exact hlt), HAC.out, hd])
      obtain ⟨y1, h1⟩ : ∃ y, digS d = y := ⟨_, rfl⟩
      obtain ⟨y2, h2⟩ : ∃ y, memS D.re d = y := ⟨_, rfl⟩
      obtain ⟨y3, h3⟩ : ∃ y, memS acc d = y := ⟨_, rfl⟩
      have H1 := Lib.hid h1
      have H2 := Lib.hid h2
      have H3 := Lib.hid h3
      clear hc hd h1 h2 h3
      have hlk : (k : Int) < (n : Int) := by omega
      cases y1
      · have hs : fsF D.re (l.take (k + 1)) = acc := by rw [HST.out]; unfold stF; rw [if_neg (by rw [H1.out]; simp)]
        have HS := Lib.hid hs
        clear hs
        go_wp2_with (go_at_call 110; refine (comm_Digest d _ _ H1.out).mono ?_; rintro e w' ⟨rfl, rfl⟩)
        go_roundw
        case rel => exact ⟨k + 1, by omega, by go_num, by (rw [HS.out]; exact HF), HB, HZ, hbw⟩
        case measure => (simp [intOf] <;> omega)
      · cases y2
        · cases y3
          · have hs : fsF D.re (l.take (k + 1)) = acc ++ [d] := by rw [HST.out]; unfold stF; rw [if_pos ⟨H1.out, H2.out, H3.out⟩]
            have HS := Lib.hid hs
            clear hs
            go_wp2_with (first
              | (go_at_call 110; refine (comm_Digest d _ _ H1.out).mono ?_; rintro e w' ⟨rfl, rfl⟩)
              | (go_at_call 132; first | ((with_reducible refine (slices_Contains rA rn rc D.re d _ _ (HRE.out.up hbw) H2.out).mono ?_); rintro e w5 ⟨rfl, hb5⟩) | ((with_reducible refine (slices_Contains fA fn fc acc d _ _ (HFI.out.up hb5) H3.out).mono ?_); rintro e w6 ⟨rfl, hb6⟩))
              | (at_builtin; refine wpList_app1 rfl (.tmp 29) (.tmp 31) rfl (w.heap.size + 2) (.slice fA fn fc) acc rfl (((HF.out.up hb5).up hb6).alloc _) _ d rfl (cell0_alloc _ _ _) (by rw [HFN.out]; omega) (le_alloc (by have := hb5.size; have := hb6.size; omega)) ?_; intro v1 w7 hown7 hg7 hbel7 hat7))
            (first | (go_round; (case rel => exact ⟨k + 1, by omega, by go_num, by (rw [HS.out]; exact Lib.hid hown7), Lib.hid (blk_low7 HB.out (by omega) hb5 hb6 hbel7), Lib.hid (blk_low7 HZ.out (by omega) hb5 hb6 hbel7), (bel_trans (bel_trans (bel_trans hbw hb5) hb6) (bel_alloc (Below.refl _ _))).trans (hbel7.mono (by omega))⟩); (case measure => (simp [intOf] <;> omega))) | (go_roundw; (case rel => exact ⟨k + 1, by omega, by go_num, by (rw [HS.out]; exact Lib.hid hown7), Lib.hid (blk_low7 HB.out (by omega) hb5 hb6 hbel7), Lib.hid (blk_low7 HZ.out (by omega) hb5 hb6 hbel7), (bel_trans (bel_trans (bel_trans hbw hb5) hb6) (bel_alloc (Below.refl _ _))).trans (hbel7.mono (by omega))⟩); (case measure => (simp [intOf] <;> omega))) | (refine ⟨?_, by simp [intOf] <;> omega⟩; (repeat apply Exists.intro); refine ⟨?rel, ?fr⟩; (case fr => ((repeat' apply And.intro) <;> rfl)); (case rel => exact ⟨k + 1, by omega, by go_num, by (rw [HS.out]; exact Lib.hid hown7), Lib.hid (blk_low7 HB.out (by omega) hb5 hb6 hbel7), Lib.hid (blk_low7 HZ.out (by omega) hb5 hb6 hbel7), (bel_trans (bel_trans (bel_trans hbw hb5) hb6) (bel_alloc (Below.refl _ _))).trans (hbel7.mono (by omega))⟩)))
          · have hs : fsF D.re (l.take (k + 1)) = acc := by rw [HST.out]; unfold stF; rw [if_neg (by rw [H3.out]; simp)]
            have HS := Lib.hid hs
            clear hs
            go_wp2_with (first
              | (go_at_call 110; refine (comm_Digest d _ _ H1.out).mono ?_; rintro e w' ⟨rfl, rfl⟩)
              | (go_at_call 132; first | ((with_reducible refine (slices_Contains rA rn rc D.re d _ _ (HRE.out.up hbw) H2.out).mono ?_); rintro e w5 ⟨rfl, hb5⟩) | ((with_reducible refine (slices_Contains fA fn fc acc d _ _ (HFI.out.up hb5) H3.out).mono ?_); rintro e w6 ⟨rfl, hb6⟩)))
            (first | (go_round; (case rel => exact ⟨k + 1, by omega, by go_num, by (rw [HS.out]; exact Lib.hid ((HF.out.up hb5).up hb6)), Lib.hid ((HB.out.up hb5).up hb6), Lib.hid ((HZ.out.up hb5).up hb6), bel_trans (bel_trans hbw hb5) hb6⟩); (case measure => (simp [intOf] <;> omega))) | (go_roundw; (case rel => exact ⟨k + 1, by omega, by go_num, by (rw [HS.out]; exact Lib.hid ((HF.out.up hb5).up hb6)), Lib.hid ((HB.out.up hb5).up hb6), Lib.hid ((HZ.out.up hb5).up hb6), bel_trans (bel_trans hbw hb5) hb6⟩); (case measure => (simp [intOf] <;> omega))) | (refine ⟨?_, by simp [intOf] <;> omega⟩; (repeat apply Exists.intro); refine ⟨?rel, ?fr⟩; (case fr => ((repeat' apply And.intro) <;> rfl)); (case rel => exact ⟨k + 1, by omega, by go_num, by (rw [HS.out]; exact Lib.hid ((HF.out.up hb5).up hb6)), Lib.hid ((HB.out.up hb5).up hb6), Lib.hid ((HZ.out.up hb5).up hb6), bel_trans (bel_trans hbw hb5) hb6⟩)))
        · have hs : fsF D.re (l.take (k + 1)) = acc := by rw [HST.out]; unfold stF; rw [if_neg (by rw [H2.out]; simp)]
          have HS := Lib.hid hs
          clear hs
          go_wp2_with (first
            | (go_at_call 110; refine (comm_Digest d _ _ H1.out).mono ?_; rintro e w' ⟨rfl, rfl⟩)
            | (go_at_call 132; first | ((with_reducible refine (slices_Contains rA rn rc D.re d _ _ (HRE.out.up hbw) H2.out).mono ?_); rintro e w5 ⟨rfl, hb5⟩) | ((with_reducible refine (slices_Contains fA fn fc acc d _ _ (HFI.out.up hb5) H3.out).mono ?_); rintro e w6 ⟨rfl, hb6⟩)))
          (first | (go_round; (case rel => exact ⟨k + 1, by omega, by go_num, by (rw [HS.out]; exact Lib.hid (HF.out.up hb5)), Lib.hid (HB.out.up hb5), Lib.hid (HZ.out.up hb5), bel_trans hbw hb5⟩); (case measure => (simp [intOf] <;> omega))) | (go_roundw; (case rel => exact ⟨k + 1, by omega, by go_num, by (rw [HS.out]; exact Lib.hid (HF.out.up hb5)), Lib.hid (HB.out.up hb5), Lib.hid (HZ.out.up hb5), bel_trans hbw hb5⟩); (case measure => (simp [intOf] <;> omega))) | (refine ⟨?_, by simp [intOf] <;> omega⟩; (repeat apply Exists.intro); refine ⟨?rel, ?fr⟩; (case fr => ((repeat' apply And.intro) <;> rfl)); (case rel => exact ⟨k + 1, by omega, by go_num, by (rw [HS.out]; exact Lib.hid (HF.out.up hb5)), Lib.hid (HB.out.up hb5), Lib.hid (HZ.out.up hb5), bel_trans hbw hb5⟩)))
    · obtain rfl : k = n := by omega
      have hd1 : decide ((k : Int) < (k : Int)) = false := by simp
      have hE : acc = fsF D.re l := by rw [← HAC.out, ← HLN.out, List.take_length]
      have HE := Lib.hid hE
      have lw := HB.out.lt
      have fw := HB.out.frozen
      have fz := HZ.out.frozen
      have hs2 : w.heap.size + 2 ≤ wk.heap.size := by omega
      have hsz := hbw.size
      clear hE
      go_wp2_with (at_builtin; refine wpList_appAny rfl (.tmp 34) (.tmp 36) rfl rfl (w.heap.size + 2) (.slice fA fn fc) acc rfl HF.out rA rn rc D.re rfl (HRE.out.up hbw) (by rw [HFN.out]; omega) hs2 ?_; intro v1 w7 hown7 hg7 hbel7 hat7; obtain ⟨sA, sc, e7, hI7, _⟩ := hown7.ints (by have e8 := HFN.out; have e9 : D.re.length = rn := HRE.out.1; simp; omega); have HO7 := Lib.hid hown7; have hB7 := HB.out.below hbel7 (by omega); have hZ7 := HZ.out.below hbel7 (by omega); have l7 := hB7.lt; have l8 := hZ7.lt; have f7 := hB7.frozen; have f8 := hZ7.frozen; clear a_0 a_1 a_2 a_3 a_4 a_5 a_6 a_7 a_8 hown7 hg7 hat7 hI7; have b_0 := (hB7.box).2 0 _ rfl; have b_1 := (hB7.box).2 1 _ rfl; have b_2 := (hB7.box).2 2 _ rfl; have b_3 := (hB7.box).2 3 _ rfl; have b_4 := (hB7.box).2 4 _ rfl; have b_5 := (hB7.box).2 5 _ rfl; have b_6 := (hB7.box).2 6 _ rfl; have b_7 := (hB7.box).2 7 _ rfl; have b_8 := (hB7.box).2 8 _ rfl; have z_0 := (hZ7.box).2 0 _ rfl; have z_1 := (hZ7.box).2 1 _ rfl; have z_2 := (hZ7.box).2 2 _ rfl; have z_3 := (hZ7.box).2 3 _ rfl; have z_4 := (hZ7.box).2 4 _ rfl; have z_5 := (hZ7.box).2 5 _ rfl; have z_6 := (hZ7.box).2 6 _ rfl; have z_7 := (hZ7.box).2 7 _ rfl; have z_8 := (hZ7.box).2 8 _ rfl; clear hB7 hZ7; (obtain ⟨sn, hsn⟩ : ∃ x, (acc ++ D.re).length = x := ⟨_, rfl⟩); rw [hsn] at e7; subst e7; clear hsn)
      have hbe : Below w.heap.size w w7 := hbw.trans (hbel7.mono (by omega))
      have HBE := Lib.hid hbe
      clear hbel7 hbw hbe lb lw fw fz
      go_wp2_with fail
      exact bodyPost_ret (v := .agg #[.int .i64 D.id, .int .i64 D.nodes, .int .i64 D.next, .slice oA on oc, .int .i64 D.age, .int .i64 D.clock, .slice tA tn tc, .slice eA en ec, .slice sA sn sc]) (by simp [results, Tryz.results104, go_sem, *]) rfl ⟨⟨sA, sn, sc⟩, rfl, by (rw [← HE.out]; exact ((((((((((HO7.out.set (p := ⟨w.heap.size, 8, none⟩) (by show w.heap.size < _; omega) (.slice sA sn sc)).set (p := ⟨w.heap.size + 1, 0, none⟩) (by show w.heap.size + 1 < _; omega) (.int .i64 D.id)).set (p := ⟨w.heap.size + 1, 1, none⟩) (by show w.heap.size + 1 < _; omega) (.int .i64 D.nodes)).set (p := ⟨w.heap.size + 1, 2, none⟩) (by show w.heap.size + 1 < _; omega) (.int .i64 D.next)).set (p := ⟨w.heap.size + 1, 3, none⟩) (by show w.heap.size + 1 < _; omega) (.slice oA on oc)).set (p := ⟨w.heap.size + 1, 4, none⟩) (by show w.heap.size + 1 < _; omega) (.int .i64 D.age)).set (p := ⟨w.heap.size + 1, 5, none⟩) (by show w.heap.size + 1 < _; omega) (.int .i64 D.clock)).set (p := ⟨w.heap.size + 1, 6, none⟩) (by show w.heap.size + 1 < _; omega) (.slice tA tn tc)).set (p := ⟨w.heap.size + 1, 7, none⟩) (by show w.heap.size + 1 < _; omega) (.slice eA en ec)).set (p := ⟨w.heap.size + 1, 8, none⟩) (by show w.heap.size + 1 < _; omega) (.slice sA sn sc)).mono (by omega)), by (have hbe := HBE.out; (repeat (first | (with_reducible exact Below.refl _ _) | (with_reducible assumption) | (with_reducible apply bel_alloc) | (with_reducible apply bel_drew) | (with_reducible apply bel_drewN) | (with_reducible refine bel_trans ?_ (by with_reducible assumption)) | (with_reducible refine bel_trans ?_ (HF.out _)) | ((with_reducible refine bel_set3 ?_ ?_); rotate_left; omega))))⟩
end Go.Proofs.YtgfakefcmbpboaaGreat
