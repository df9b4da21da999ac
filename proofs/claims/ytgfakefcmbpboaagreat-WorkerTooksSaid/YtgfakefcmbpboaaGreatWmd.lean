/- droverref13.Back: numbers put in front. -/
import Derived.Test.YtgfakefcmbpboaaGreatWmb
import Derived.Test.YtgfakefcmbpboaaGreatWsg
namespace Go.Proofs.YtgfakefcmbpboaaGreat
open Go.RowKit
set_option linter.unusedSimpArgs false
set_option linter.unusedVariables false

theorem inS_lt (l : List Int) (x : Int) (y : Bool) (h : memS l x = y) : decide (inS l x < 0) = !y := by
  subst h
  unfold memS
  by_cases hm : x ∈ l
  · have : ¬ inS l x < 0 := fun q => inS_neg.1 q hm
    simp [hm, this]
  · have : inS l x < 0 := inS_neg.2 hm
    simp [hm, this]
set_option maxRecDepth 100000 in
set_option maxHeartbeats 4000000 in
theorem ref13_Back (P : WorkP) (D : WorkD) (A : Option Addr) (n c : Nat) (l : List Int) (w : World) (h : WorkR w P D) (hl : IntsR w A n l) (hn : n ≤ 1000000) (hr : D.re.length ≤ 1000000) (hs : BigD D) :
    Calls Tryz.prog 58 #[P.val D, .slice A n c] w fun e w' => ∃ P', e = .returned (WorkP.val P' (inW D l)) ∧ WorkO w' w.heap.size P' (inW D l) ∧ Below w.heap.size w w' := by
  have H := Lib.hid h
  obtain ⟨⟨oA, on, oc⟩, ⟨tA, tn, tc⟩, ⟨eA, en, ec⟩, ⟨rA, rn, rc⟩⟩ := P
  have HS0 := Lib.hid hs
  have HL := Lib.hid hl
  have HLN : Hid (l.length = n) := Lib.hid hl.1
  have HRE : Hid (IntsR w rA rn D.re) := Lib.hid h.re
  have hrn : rn ≤ 1000000 := by have e := h.re.1; show rn ≤ _; have e2 : D.re.length = rn := e; omega
  clear h hl hr hs
  show Calls Tryz.prog 58 #[.agg #[.int .i64 D.id, .int .i64 D.nodes, .int .i64 D.next, .slice oA on oc, .int .i64 D.age, .int .i64 D.clock, .slice tA tn tc, .slice eA en ec, .slice rA rn rc], .slice A n c] w _
  go_enter Tryz.func58, Tryz.ntmps58
  go_wp2_with fail
  have hX1 : Blk ((w.alloc (.cells #[.int .i64 D.id, .int .i64 D.nodes, .int .i64 D.next, .slice oA on oc, .int .i64 D.age, .int .i64 D.clock, .slice tA tn tc, .slice eA en ec, .slice rA rn rc] 27)).alloc (.cells #[.int .i64 0, .int .i64 0, .int .i64 0, .slice none 0 0, .int .i64 0, .int .i64 0, .slice none 0 0, .slice none 0 0, .slice none 0 0] 27)) w.heap.size 27 [.int .i64 D.id, .int .i64 D.nodes, .int .i64 D.next, .slice oA on oc, .int .i64 D.age, .int .i64 D.clock, .slice tA tn tc, .slice eA en ec, .slice rA rn rc] := (Blk.new w 27 [.int .i64 D.id, .int .i64 D.nodes, .int .i64 D.next, .slice oA on oc, .int .i64 D.age, .int .i64 D.clock, .slice tA tn tc, .slice eA en ec, .slice rA rn rc]).up (by (repeat (first | (with_reducible exact Below.refl _ _) | (with_reducible assumption) | (with_reducible apply bel_alloc) | (with_reducible apply bel_drew) | (with_reducible apply bel_drewN) | (with_reducible refine bel_trans ?_ (by with_reducible assumption)) | (with_reducible refine bel_trans ?_ (HF.out _)) | (with_reducible refine bel_set ?_ (by simp) _) | (with_reducible refine bel_set ?_ (by simp; omega) _) | (with_reducible refine bel_set ?_ (by omega) _))))
  have hX3 : Blk ((w.alloc (.cells #[.int .i64 D.id, .int .i64 D.nodes, .int .i64 D.next, .slice oA on oc, .int .i64 D.age, .int .i64 D.clock, .slice tA tn tc, .slice eA en ec, .slice rA rn rc] 27)).alloc (.cells #[.int .i64 0, .int .i64 0, .int .i64 0, .slice none 0 0, .int .i64 0, .int .i64 0, .slice none 0 0, .slice none 0 0, .slice none 0 0] 27)) (w.heap.size + 1) 27 [.int .i64 0, .int .i64 0, .int .i64 0, .slice none 0 0, .int .i64 0, .int .i64 0, .slice none 0 0, .slice none 0 0, .slice none 0 0] := by
    have := Blk.new (w.alloc (.cells #[.int .i64 D.id, .int .i64 D.nodes, .int .i64 D.next, .slice oA on oc, .int .i64 D.age, .int .i64 D.clock, .slice tA tn tc, .slice eA en ec, .slice rA rn rc] 27)) 27 [.int .i64 0, .int .i64 0, .int .i64 0, .slice none 0 0, .int .i64 0, .int .i64 0, .slice none 0 0, .slice none 0 0, .slice none 0 0]
    simpa using this
  have hbX : Below w.heap.size w ((w.alloc (.cells #[.int .i64 D.id, .int .i64 D.nodes, .int .i64 D.next, .slice oA on oc, .int .i64 D.age, .int .i64 D.clock, .slice tA tn tc, .slice eA en ec, .slice rA rn rc] 27)).alloc (.cells #[.int .i64 0, .int .i64 0, .int .i64 0, .slice none 0 0, .int .i64 0, .int .i64 0, .slice none 0 0, .slice none 0 0, .slice none 0 0] 27)) := by (repeat (first | (with_reducible exact Below.refl _ _) | (with_reducible assumption) | (with_reducible apply bel_alloc) | (with_reducible apply bel_drew) | (with_reducible apply bel_drewN) | (with_reducible refine bel_trans ?_ (by with_reducible assumption)) | (with_reducible refine bel_trans ?_ (HF.out _)) | (with_reducible refine bel_set ?_ (by simp) _) | (with_reducible refine bel_set ?_ (by simp; omega) _) | (with_reducible refine bel_set ?_ (by omega) _)))
  generalize ((w.alloc (.cells #[.int .i64 D.id, .int .i64 D.nodes, .int .i64 D.next, .slice oA on oc, .int .i64 D.age, .int .i64 D.clock, .slice tA tn tc, .slice eA en ec, .slice rA rn rc] 27)).alloc (.cells #[.int .i64 0, .int .i64 0, .int .i64 0, .slice none 0 0, .int .i64 0, .int .i64 0, .slice none 0 0, .slice none 0 0, .slice none 0 0] 27)) = X at *
  have HX1 := Lib.hid hX1
  have HX3 := Lib.hid hX3
  clear hX1 hX3
  refine (ref0_CopyWorker ⟨⟨oA, on, oc⟩, ⟨tA, tn, tc⟩, ⟨eA, en, ec⟩, ⟨rA, rn, rc⟩⟩ D _ (H.out.up hbX) HS0.out).mono ?_
  rintro e w1 ⟨⟨⟨oA2, on2, oc2⟩, ⟨tA2, tn2, tc2⟩, ⟨eA2, en2, ec2⟩, ⟨rA2, rn2, rc2⟩⟩, he1, hO1, hb1⟩
  simp only [WorkP.val] at he1
  subst he1
  have hb0 : Below w1.heap.size w1 (w1.alloc (.cells #[.int .i64 D.id, .int .i64 D.nodes, .int .i64 D.next, .slice oA2 on2 oc2, .int .i64 D.age, .int .i64 D.clock, .slice tA2 tn2 tc2, .slice eA2 en2 ec2, .slice rA2 rn2 rc2] 27)) := by (repeat (first | (with_reducible exact Below.refl _ _) | (with_reducible assumption) | (with_reducible apply bel_alloc) | (with_reducible apply bel_drew) | (with_reducible apply bel_drewN) | (with_reducible refine bel_trans ?_ (by with_reducible assumption)) | (with_reducible refine bel_trans ?_ (HF.out _)) | (with_reducible refine bel_set ?_ (by simp) _) | (with_reducible refine bel_set ?_ (by simp; omega) _) | (with_reducible refine bel_set ?_ (by omega) _)))
  have HX : Hid (Blk (w1.alloc (.cells #[.int .i64 D.id, .int .i64 D.nodes, .int .i64 D.next, .slice oA2 on2 oc2, .int .i64 D.age, .int .i64 D.clock, .slice tA2 tn2 tc2, .slice eA2 en2 ec2, .slice rA2 rn2 rc2] 27)) w1.heap.size 27 [.int .i64 D.id, .int .i64 D.nodes, .int .i64 D.next, .slice oA2 on2 oc2, .int .i64 D.age, .int .i64 D.clock, .slice tA2 tn2 tc2, .slice eA2 en2 ec2, .slice rA2 rn2 rc2]) := Lib.hid (Blk.new w1 27 [.int .i64 D.id, .int .i64 D.nodes, .int .i64 D.next, .slice oA2 on2 oc2, .int .i64 D.age, .int .i64 D.clock, .slice tA2 tn2 tc2, .slice eA2 en2 ec2, .slice rA2 rn2 rc2])
  have HY1 := Lib.hid ((HX1.out.up hb1).up hb0)
  have HY3 := Lib.hid ((HX3.out.up hb1).up hb0)
  have hsz1 : w.heap.size + 2 ≤ w1.heap.size := by have := (HX3.out.up hb1).lt; omega
  have HO1 := Lib.hid ((hO1.mono (B' := w.heap.size + 2) (by have := HX3.out.lt; omega)).up hb0)
  have hbY := bel_trans (bel_trans hbX hb1) hb0
  go_wp2_with fail
  obtain ⟨gx, hgx⟩ : ∃ g, g = w1.heap.size := ⟨_, rfl⟩
  obtain ⟨Y, hY⟩ : ∃ Y, Y = (w1.alloc (.cells #[.int .i64 D.id, .int .i64 D.nodes, .int .i64 D.next, .slice oA2 on2 oc2, .int .i64 D.age, .int .i64 D.clock, .slice tA2 tn2 tc2, .slice eA2 en2 ec2, .slice rA2 rn2 rc2] 27)) := ⟨_, rfl⟩
  rw [← hY, ← hgx] at HX ⊢
  rw [← hY] at HY1 HY3 HO1 hbY
  rw [← hgx] at hsz1
  clear hY hgx HX1 HX3 hO1 hb1 hb0 hbX
  go_loopw [6, 7] (fun v ix wr => ∃ k : Nat, k ≤ n ∧ ix = .int .i64 k ∧ Hid (OwnI wr Y.heap.size v (fsF D.re (l.take k))) ∧ Hid (Blk wr w.heap.size 27 [.int .i64 D.id, .int .i64 D.nodes, .int .i64 D.next, .slice oA on oc, .int .i64 D.age, .int .i64 D.clock, .slice tA tn tc, .slice eA en ec, .slice rA rn rc]) ∧ Below Y.heap.size Y wr) (fun _ ix _ => n - (intOf ix).toNat)
  case atStart => exact ⟨0, Nat.zero_le _, rfl, Lib.hid (OwnI.nil _ _), HY1, Below.refl _ _⟩
  case round =>
    obtain ⟨k, hk, rfl, HF, HB, hbw⟩ := hrel
    have hbW := hbY.trans (hbw.mono hbY.size)
    (obtain ⟨wk, hwk⟩ : ∃ x, x = wr := ⟨_, rfl⟩); subst hwk
    have hfl := fsF_len D.re l k (by rw [HLN.out]; exact hk)
    obtain ⟨acc, hacc⟩ : ∃ a, fsF D.re (l.take k) = a := ⟨_, rfl⟩
    rw [hacc] at HF hfl
    obtain ⟨fA, fc, e, hI, hfB⟩ := HF.out.ints (by omega)
    subst e
    obtain ⟨fn, hfn⟩ : ∃ x, acc.length = x := ⟨_, rfl⟩
    rw [hfn] at HF hI hfl ⊢
    have HFI := Lib.hid hI
    have HFN := Lib.hid hfn
    have HAC := Lib.hid hacc
    have lb := HB.out.lt
    clear hI hfn hfB hacc
    have a_0 := (HB.out.box).2 0 _ rfl; have a_1 := (HB.out.box).2 1 _ rfl; have a_2 := (HB.out.box).2 2 _ rfl; have a_3 := (HB.out.box).2 3 _ rfl; have a_4 := (HB.out.box).2 4 _ rfl; have a_5 := (HB.out.box).2 5 _ rfl; have a_6 := (HB.out.box).2 6 _ rfl; have a_7 := (HB.out.box).2 7 _ rfl; have a_8 := (HB.out.box).2 8 _ rfl
    by_cases hlt : k < n
    · obtain ⟨b, off, rfl, hb, hc⟩ := (HL.out.up hbW).2.2 (by omega)
      have hck := hc k hlt
      obtain ⟨d, hd⟩ : ∃ d, nth l k = d := ⟨_, rfl⟩
      rw [hd] at hck
      have HST : Hid (fsF D.re (l.take (k + 1)) = stF D.re acc d) := Lib.hid (by rw [fsF_take _ _ (by rw [HLN.out]; exact hlt), HAC.out, hd])
      obtain ⟨y1, h1⟩ : ∃ y, digS d = y := ⟨_, rfl⟩
      obtain ⟨y2, h2⟩ : ∃ y, memS D.re d = y := ⟨_, rfl⟩
      obtain ⟨y3, h3⟩ : ∃ y, memS acc d = y := ⟨_, rfl⟩
      have H1 := Lib.hid h1
      have H2 := Lib.hid h2
      have H3 := Lib.hid h3
      clear hc hd h1 h2 h3
      have hlk : (k : Int) < (n : Int) := by omega
      have HCL : Hid (∀ Q, Below wk.heap.size wk Q → (Q.cell? ⟨b, off + k, none⟩ = some (.int .i64 d) ∧ Q.cell? ⟨w.heap.size, 8, none⟩ = some (.slice rA rn rc))) := Lib.hid (fun Q hQ => ⟨(hQ.cell (p := ⟨b, off + k, none⟩) hb).trans hck, (HB.out.up hQ).box.2 8 _ rfl⟩)
      have hdr : Below wk.heap.size wk wk.drew := bel_drew (Below.refl _ _)
      have HRD := Lib.hid (HRE.out.up (bel_trans hbW hdr))
      have HFD := Lib.hid (HFI.out.up hdr)
      have hI2 := inS_lt D.re d _ H2.out
      have hI3 := inS_lt acc d _ H3.out
      obtain ⟨S, hSd⟩ : ∃ S : World → Prop, S = fun Q => Q.cell? ⟨b, off + k, none⟩ = some (.int .i64 d) ∧ Q.cell? ⟨w.heap.size, 8, none⟩ = some (.slice rA rn rc) := ⟨_, rfl⟩
      have hS1 : ∀ Q, S Q → Q.cell? ⟨b, off + k, none⟩ = some (.int .i64 d) := fun Q h => by rw [hSd] at h; exact h.1
      have hS2 : ∀ Q, S Q → Q.cell? ⟨w.heap.size, 8, none⟩ = some (.slice rA rn rc) := fun Q h => by rw [hSd] at h; exact h.2
      have hZ0 : S wk.drew := by rw [hSd]; exact HCL.out _ hdr
      clear hSd hck
      cases y1
      · have hs : fsF D.re (l.take (k + 1)) = acc := by rw [HST.out]; unfold stF; rw [if_neg (by rw [H1.out]; simp)]
        have HS := Lib.hid hs
        clear hs
        go_upto_region 6 with fail
        refine wp_region_held_drew (S := S) (by kernel_rfl) hZ0 (fun hHeld => ?_)
        have hZ := hHeld
        generalize wk.drew = Z at *
        (refine wpAnyH_takeD (i := 0) (d := (some 16)) (v := ?_) rfl rfl (by kernel_rfl) (by kernel_rfl) (by kernel_rfl) (fun _ _ _ h => h) (Or.inl ⟨by rfl, ?_⟩) (by assumption) ?_)
        rotate_left
        focus
          intro wq hSw
          skip
          clear hSw
          go_simp
          all_goals (with_reducible rfl)
        simp only [Act.put, List.setIfInBounds_toArray, List.set_cons_zero, List.set_cons_succ]
        (refine wpAnyH_takeD (i := 1) (d := (some 17)) (v := ?_) rfl rfl (by kernel_rfl) (by kernel_rfl) (by kernel_rfl) (fun _ _ _ h => h) (Or.inl ⟨by rfl, ?_⟩) (by assumption) ?_)
        rotate_left
        focus
          intro wq hSw
          skip
          clear hSw
          go_simp
          all_goals (with_reducible rfl)
        simp only [Act.put, List.setIfInBounds_toArray, List.set_cons_zero, List.set_cons_succ]
        (refine wpAnyH_takeD (i := 2) (d := (some 18)) (v := ?_) rfl rfl (by kernel_rfl) (by kernel_rfl) (by kernel_rfl) (fun _ _ _ h => h) (Or.inl ⟨by rfl, ?_⟩) (by assumption) ?_)
        rotate_left
        focus
          intro wq hSw
          skip
          clear hSw
          go_simp
          all_goals (with_reducible rfl)
        simp only [Act.put, List.setIfInBounds_toArray, List.set_cons_zero, List.set_cons_succ]
        (refine wpAnyH_takeD (i := 3) (d := (some 19)) (v := ?_) rfl rfl (by kernel_rfl) (by kernel_rfl) (by kernel_rfl) (fun _ _ _ h => h) (Or.inl ⟨by rfl, ?_⟩) (by assumption) ?_)
        rotate_left
        focus
          intro wq hSw
          have q1 := hS1 wq hSw
          clear hSw
          go_simp
          all_goals (with_reducible rfl)
        simp only [Act.put, List.setIfInBounds_toArray, List.set_cons_zero, List.set_cons_succ]
        refine wpAnyH_ready (rs := [4]) (by kernel_rfl) (by simp) ?_
        refine AllReadyH.cons (o := _) rfl (fun K hK => ?_) AllReadyH.nil
        go_simp
        (go_at_call 36; refine (refd_Digest d _ _ H1.out).mono ?_; rintro e w' ⟨rfl, rfl⟩)
        refine hK.out _ _ (hZ) (fun hHeld => ?_)
        clear hK K
        (try simp only [Act.put, List.setIfInBounds_toArray, List.set_cons_zero, List.set_cons_succ])
        (refine wpAnyH_takeD (i := 5) (d := (some 21)) (v := ?_) rfl rfl (by kernel_rfl) (by kernel_rfl) (by kernel_rfl) (fun _ _ _ h => h) (Or.inl ⟨by rfl, ?_⟩) (by assumption) ?_)
        rotate_left
        focus
          intro wq hSw
          skip
          clear hSw
          go_simp
          all_goals (with_reducible rfl)
        simp only [Act.put, List.setIfInBounds_toArray, List.set_cons_zero, List.set_cons_succ]
        refine wpAnyH_takeD (i := 6) (d := (some 22)) (v := undef) rfl rfl (by kernel_rfl) (by kernel_rfl) (by kernel_rfl) (fun _ _ _ h => h) (Or.inr ⟨by rfl, rfl⟩) (by assumption) ?_
        simp only [Act.put, List.setIfInBounds_toArray, List.set_cons_zero, List.set_cons_succ]
        refine wpAnyH_takeD (i := 7) (d := (some 23)) (v := undef) rfl rfl (by kernel_rfl) (by kernel_rfl) (by kernel_rfl) (fun _ _ _ h => h) (Or.inr ⟨by rfl, rfl⟩) (by assumption) ?_
        simp only [Act.put, List.setIfInBounds_toArray, List.set_cons_zero, List.set_cons_succ]
        refine wpAnyH_takeD (i := 8) (d := (some 24)) (v := undef) rfl rfl (by kernel_rfl) (by kernel_rfl) (by kernel_rfl) (fun _ _ _ h => h) (Or.inr ⟨by rfl, rfl⟩) (by assumption) ?_
        simp only [Act.put, List.setIfInBounds_toArray, List.set_cons_zero, List.set_cons_succ]
        refine wpAnyH_takeD (i := 9) (d := (some 25)) (v := undef) rfl rfl (by kernel_rfl) (by kernel_rfl) (by kernel_rfl) (fun _ _ _ h => h) (Or.inr ⟨by rfl, rfl⟩) (by assumption) ?_
        simp only [Act.put, List.setIfInBounds_toArray, List.set_cons_zero, List.set_cons_succ]
        refine wpAnyH_takeD (i := 10) (d := (some 26)) (v := undef) rfl rfl (by kernel_rfl) (by kernel_rfl) (by kernel_rfl) (fun _ _ _ h => h) (Or.inr ⟨by rfl, rfl⟩) (by assumption) ?_
        simp only [Act.put, List.setIfInBounds_toArray, List.set_cons_zero, List.set_cons_succ]
        refine wpAnyH_takeD (i := 11) (d := (some 27)) (v := undef) rfl rfl (by kernel_rfl) (by kernel_rfl) (by kernel_rfl) (fun _ _ _ h => h) (Or.inr ⟨by rfl, rfl⟩) (by assumption) ?_
        simp only [Act.put, List.setIfInBounds_toArray, List.set_cons_zero, List.set_cons_succ]
        refine wpAnyH_takeD (i := 12) (d := (some 28)) (v := undef) rfl rfl (by kernel_rfl) (by kernel_rfl) (by kernel_rfl) (fun _ _ _ h => h) (Or.inr ⟨by rfl, rfl⟩) (by assumption) ?_
        simp only [Act.put, List.setIfInBounds_toArray, List.set_cons_zero, List.set_cons_succ]
        refine wpAnyH_takeD (i := 13) (d := (some 29)) (v := undef) rfl rfl (by kernel_rfl) (by kernel_rfl) (by kernel_rfl) (fun _ _ _ h => h) (Or.inr ⟨by rfl, rfl⟩) (by assumption) ?_
        simp only [Act.put, List.setIfInBounds_toArray, List.set_cons_zero, List.set_cons_succ]
        (refine wpAnyH_takeD (i := 14) (d := (some 30)) (v := ?_) rfl rfl (by kernel_rfl) (by kernel_rfl) (by kernel_rfl) (fun _ _ _ h => h) (Or.inl ⟨by rfl, ?_⟩) (by assumption) ?_)
        rotate_left
        focus
          intro wq hSw
          skip
          clear hSw
          go_simp
          all_goals (with_reducible rfl)
        simp only [Act.put, List.setIfInBounds_toArray, List.set_cons_zero, List.set_cons_succ]
        (refine wpAnyH_takeD (i := 15) (d := (some 31)) (v := ?_) rfl rfl (by kernel_rfl) (by kernel_rfl) (by kernel_rfl) (fun _ _ _ h => h) (Or.inl ⟨by rfl, ?_⟩) (by assumption) ?_)
        rotate_left
        focus
          intro wq hSw
          skip
          clear hSw
          go_simp
          all_goals (with_reducible rfl)
        simp only [Act.put, List.setIfInBounds_toArray, List.set_cons_zero, List.set_cons_succ]
        refine wpAnyH_takeD (i := 16) (d := (some 32)) (v := undef) rfl rfl (by kernel_rfl) (by kernel_rfl) (by kernel_rfl) (fun _ _ _ h => h) (Or.inr ⟨by rfl, rfl⟩) (by assumption) ?_
        simp only [Act.put, List.setIfInBounds_toArray, List.set_cons_zero, List.set_cons_succ]
        refine wpAnyH_takeD (i := 17) (d := (some 33)) (v := undef) rfl rfl (by kernel_rfl) (by kernel_rfl) (by kernel_rfl) (fun _ _ _ h => h) (Or.inr ⟨by rfl, rfl⟩) (by assumption) ?_
        simp only [Act.put, List.setIfInBounds_toArray, List.set_cons_zero, List.set_cons_succ]
        refine wpAnyH_takeD (i := 18) (d := (some 34)) (v := undef) rfl rfl (by kernel_rfl) (by kernel_rfl) (by kernel_rfl) (fun _ _ _ h => h) (Or.inr ⟨by rfl, rfl⟩) (by assumption) ?_
        simp only [Act.put, List.setIfInBounds_toArray, List.set_cons_zero, List.set_cons_succ]
        refine wpAnyH_takeD (i := 19) (d := (some 35)) (v := undef) rfl rfl (by kernel_rfl) (by kernel_rfl) (by kernel_rfl) (fun _ _ _ h => h) (Or.inr ⟨by rfl, rfl⟩) (by assumption) ?_
        simp only [Act.put, List.setIfInBounds_toArray, List.set_cons_zero, List.set_cons_succ]
        refine wpAnyH_takeD (i := 20) (d := (some 36)) (v := undef) rfl rfl (by kernel_rfl) (by kernel_rfl) (by kernel_rfl) (fun _ _ _ h => h) (Or.inr ⟨by rfl, rfl⟩) (by assumption) ?_
        simp only [Act.put, List.setIfInBounds_toArray, List.set_cons_zero, List.set_cons_succ]
        refine wpAnyH_takeD (i := 21) (d := (some 37)) (v := undef) rfl rfl (by kernel_rfl) (by kernel_rfl) (by kernel_rfl) (fun _ _ _ h => h) (Or.inr ⟨by rfl, rfl⟩) (by assumption) ?_
        simp only [Act.put, List.setIfInBounds_toArray, List.set_cons_zero, List.set_cons_succ]
        refine wpAnyH_takeD (i := 22) (d := (some 38)) (v := undef) rfl rfl (by kernel_rfl) (by kernel_rfl) (by kernel_rfl) (fun _ _ _ h => h) (Or.inr ⟨by rfl, rfl⟩) (by assumption) ?_
        simp only [Act.put, List.setIfInBounds_toArray, List.set_cons_zero, List.set_cons_succ]
        (refine wpAnyH_takeD (i := 23) (d := (some 39)) (v := ?_) rfl rfl (by kernel_rfl) (by kernel_rfl) (by kernel_rfl) (fun _ _ _ h => h) (Or.inl ⟨by rfl, ?_⟩) (by assumption) ?_)
        rotate_left
        focus
          intro wq hSw
          skip
          clear hSw
          go_simp
          all_goals (with_reducible rfl)
        simp only [Act.put, List.setIfInBounds_toArray, List.set_cons_zero, List.set_cons_succ]
        refine wpAnyH_done (by kernel_rfl) ?_ _
        go_wp2_with fail
        (first | (go_round; (case rel => exact ⟨k + 1, by omega, by go_num, by (rw [HS.out]; exact Lib.hid (HF.out.up hdr)), Lib.hid (HB.out.up hdr), bel_trans hbw hdr⟩); (case measure => (simp [intOf] <;> omega))) | (go_roundw; (case rel => exact ⟨k + 1, by omega, by go_num, by (rw [HS.out]; exact Lib.hid (HF.out.up hdr)), Lib.hid (HB.out.up hdr), bel_trans hbw hdr⟩); (case measure => (simp [intOf] <;> omega))) | (refine ⟨?_, by simp [intOf] <;> omega⟩; (repeat apply Exists.intro); refine ⟨?rel, ?fr⟩; (case fr => ((repeat' apply And.intro) <;> rfl)); (case rel => exact ⟨k + 1, by omega, by go_num, by (rw [HS.out]; exact Lib.hid (HF.out.up hdr)), Lib.hid (HB.out.up hdr), bel_trans hbw hdr⟩)))
      · cases y2
        · cases y3
          · have hs : fsF D.re (l.take (k + 1)) = acc ++ [d] := by rw [HST.out]; unfold stF; rw [if_pos ⟨H1.out, H2.out, H3.out⟩]
            have HS := Lib.hid hs
            clear hs
            go_upto_region 6 with fail
            refine wp_region_held_drew (S := S) (by kernel_rfl) hZ0 (fun hHeld => ?_)
            have hZ := hHeld
            generalize wk.drew = Z at *
            (refine wpAnyH_takeD (i := 0) (d := (some 16)) (v := ?_) rfl rfl (by kernel_rfl) (by kernel_rfl) (by kernel_rfl) (fun _ _ _ h => h) (Or.inl ⟨by rfl, ?_⟩) (by assumption) ?_)
            rotate_left
            focus
              intro wq hSw
              skip
              clear hSw
              go_simp
              all_goals (with_reducible rfl)
            simp only [Act.put, List.setIfInBounds_toArray, List.set_cons_zero, List.set_cons_succ]
            (refine wpAnyH_takeD (i := 1) (d := (some 17)) (v := ?_) rfl rfl (by kernel_rfl) (by kernel_rfl) (by kernel_rfl) (fun _ _ _ h => h) (Or.inl ⟨by rfl, ?_⟩) (by assumption) ?_)
            rotate_left
            focus
              intro wq hSw
              skip
              clear hSw
              go_simp
              all_goals (with_reducible rfl)
            simp only [Act.put, List.setIfInBounds_toArray, List.set_cons_zero, List.set_cons_succ]
            (refine wpAnyH_takeD (i := 2) (d := (some 18)) (v := ?_) rfl rfl (by kernel_rfl) (by kernel_rfl) (by kernel_rfl) (fun _ _ _ h => h) (Or.inl ⟨by rfl, ?_⟩) (by assumption) ?_)
            rotate_left
            focus
              intro wq hSw
              skip
              clear hSw
              go_simp
              all_goals (with_reducible rfl)
            simp only [Act.put, List.setIfInBounds_toArray, List.set_cons_zero, List.set_cons_succ]
            (refine wpAnyH_takeD (i := 3) (d := (some 19)) (v := ?_) rfl rfl (by kernel_rfl) (by kernel_rfl) (by kernel_rfl) (fun _ _ _ h => h) (Or.inl ⟨by rfl, ?_⟩) (by assumption) ?_)
            rotate_left
            focus
              intro wq hSw
              have q1 := hS1 wq hSw
              clear hSw
              go_simp
              all_goals (with_reducible rfl)
            simp only [Act.put, List.setIfInBounds_toArray, List.set_cons_zero, List.set_cons_succ]
            refine wpAnyH_ready (rs := [4]) (by kernel_rfl) (by simp) ?_
            refine AllReadyH.cons (o := _) rfl (fun K hK => ?_) AllReadyH.nil
            go_simp
            (go_at_call 36; refine (refd_Digest d _ _ H1.out).mono ?_; rintro e w' ⟨rfl, rfl⟩)
            refine hK.out _ _ (hZ) (fun hHeld => ?_)
            clear hK K
            (try simp only [Act.put, List.setIfInBounds_toArray, List.set_cons_zero, List.set_cons_succ])
            (refine wpAnyH_takeD (i := 5) (d := (some 21)) (v := ?_) rfl rfl (by kernel_rfl) (by kernel_rfl) (by kernel_rfl) (fun _ _ _ h => h) (Or.inl ⟨by rfl, ?_⟩) (by assumption) ?_)
            rotate_left
            focus
              intro wq hSw
              skip
              clear hSw
              go_simp
              all_goals (with_reducible rfl)
            simp only [Act.put, List.setIfInBounds_toArray, List.set_cons_zero, List.set_cons_succ]
            (refine wpAnyH_takeD (i := 6) (d := (some 22)) (v := ?_) rfl rfl (by kernel_rfl) (by kernel_rfl) (by kernel_rfl) (fun _ _ _ h => h) (Or.inl ⟨by rfl, ?_⟩) (by assumption) ?_)
            rotate_left
            focus
              intro wq hSw
              skip
              clear hSw
              go_simp
              all_goals (with_reducible rfl)
            simp only [Act.put, List.setIfInBounds_toArray, List.set_cons_zero, List.set_cons_succ]
            (refine wpAnyH_takeD (i := 7) (d := (some 23)) (v := ?_) rfl rfl (by kernel_rfl) (by kernel_rfl) (by kernel_rfl) (fun _ _ _ h => h) (Or.inl ⟨by rfl, ?_⟩) (by assumption) ?_)
            rotate_left
            focus
              intro wq hSw
              have q1 := hS2 wq hSw
              clear hSw
              go_simp
              all_goals (with_reducible rfl)
            simp only [Act.put, List.setIfInBounds_toArray, List.set_cons_zero, List.set_cons_succ]
            (refine wpAnyH_takeD (i := 8) (d := (some 24)) (v := ?_) rfl rfl (by kernel_rfl) (by kernel_rfl) (by kernel_rfl) (fun _ _ _ h => h) (Or.inl ⟨by rfl, ?_⟩) (by assumption) ?_)
            rotate_left
            focus
              intro wq hSw
              skip
              clear hSw
              go_simp
              all_goals (with_reducible rfl)
            simp only [Act.put, List.setIfInBounds_toArray, List.set_cons_zero, List.set_cons_succ]
            (refine wpAnyH_takeD (i := 9) (d := (some 25)) (v := ?_) rfl rfl (by kernel_rfl) (by kernel_rfl) (by kernel_rfl) (fun _ _ _ h => h) (Or.inl ⟨by rfl, ?_⟩) (by assumption) ?_)
            rotate_left
            focus
              intro wq hSw
              skip
              clear hSw
              go_simp
              all_goals (with_reducible rfl)
            simp only [Act.put, List.setIfInBounds_toArray, List.set_cons_zero, List.set_cons_succ]
            (refine wpAnyH_takeD (i := 10) (d := (some 26)) (v := ?_) rfl rfl (by kernel_rfl) (by kernel_rfl) (by kernel_rfl) (fun _ _ _ h => h) (Or.inl ⟨by rfl, ?_⟩) (by assumption) ?_)
            rotate_left
            focus
              intro wq hSw
              skip
              clear hSw
              go_simp
              all_goals (with_reducible rfl)
            simp only [Act.put, List.setIfInBounds_toArray, List.set_cons_zero, List.set_cons_succ]
            (refine wpAnyH_takeD (i := 11) (d := (some 27)) (v := ?_) rfl rfl (by kernel_rfl) (by kernel_rfl) (by kernel_rfl) (fun _ _ _ h => h) (Or.inl ⟨by rfl, ?_⟩) (by assumption) ?_)
            rotate_left
            focus
              intro wq hSw
              have q1 := hS1 wq hSw
              clear hSw
              go_simp
              all_goals (with_reducible rfl)
            simp only [Act.put, List.setIfInBounds_toArray, List.set_cons_zero, List.set_cons_succ]
            refine wpAnyH_ready (rs := [12]) (by kernel_rfl) (by simp) ?_
            refine AllReadyH.cons (o := _) rfl (fun K hK => ?_) AllReadyH.nil
            go_simp
            (go_at_call 70; refine (ref0_In rA rn rc D.re d _ HRD.out).mono ?_; rintro e w' ⟨rfl, rfl⟩)
            refine hK.out _ _ (hZ) (fun hHeld => ?_)
            clear hK K
            (try simp only [Act.put, List.setIfInBounds_toArray, List.set_cons_zero, List.set_cons_succ])
            (refine wpAnyH_takeD (i := 13) (d := (some 29)) (v := ?_) rfl rfl (by kernel_rfl) (by kernel_rfl) (by kernel_rfl) (fun _ _ _ h => h) (Or.inl ⟨by rfl, ?_⟩) (by assumption) ?_)
            rotate_left
            focus
              intro wq hSw
              skip
              clear hSw
              go_simp
              all_goals (with_reducible rfl)
            simp only [Act.put, List.setIfInBounds_toArray, List.set_cons_zero, List.set_cons_succ]
            (refine wpAnyH_takeD (i := 14) (d := (some 30)) (v := ?_) rfl rfl (by kernel_rfl) (by kernel_rfl) (by kernel_rfl) (fun _ _ _ h => h) (Or.inl ⟨by rfl, ?_⟩) (by assumption) ?_)
            rotate_left
            focus
              intro wq hSw
              skip
              clear hSw
              go_simp
              all_goals (with_reducible rfl)
            simp only [Act.put, List.setIfInBounds_toArray, List.set_cons_zero, List.set_cons_succ]
            (refine wpAnyH_takeD (i := 15) (d := (some 31)) (v := ?_) rfl rfl (by kernel_rfl) (by kernel_rfl) (by kernel_rfl) (fun _ _ _ h => h) (Or.inl ⟨by rfl, ?_⟩) (by assumption) ?_)
            rotate_left
            focus
              intro wq hSw
              skip
              clear hSw
              go_simp
              all_goals (with_reducible rfl)
            simp only [Act.put, List.setIfInBounds_toArray, List.set_cons_zero, List.set_cons_succ]
            (refine wpAnyH_takeD (i := 16) (d := (some 32)) (v := ?_) rfl rfl (by kernel_rfl) (by kernel_rfl) (by kernel_rfl) (fun _ _ _ h => h) (Or.inl ⟨by rfl, ?_⟩) (by assumption) ?_)
            rotate_left
            focus
              intro wq hSw
              skip
              clear hSw
              go_simp
              all_goals (with_reducible rfl)
            simp only [Act.put, List.setIfInBounds_toArray, List.set_cons_zero, List.set_cons_succ]
            (refine wpAnyH_takeD (i := 17) (d := (some 33)) (v := ?_) rfl rfl (by kernel_rfl) (by kernel_rfl) (by kernel_rfl) (fun _ _ _ h => h) (Or.inl ⟨by rfl, ?_⟩) (by assumption) ?_)
            rotate_left
            focus
              intro wq hSw
              skip
              clear hSw
              go_simp
              all_goals (with_reducible rfl)
            simp only [Act.put, List.setIfInBounds_toArray, List.set_cons_zero, List.set_cons_succ]
            (refine wpAnyH_takeD (i := 18) (d := (some 34)) (v := ?_) rfl rfl (by kernel_rfl) (by kernel_rfl) (by kernel_rfl) (fun _ _ _ h => h) (Or.inl ⟨by rfl, ?_⟩) (by assumption) ?_)
            rotate_left
            focus
              intro wq hSw
              skip
              clear hSw
              go_simp
              all_goals (with_reducible rfl)
            simp only [Act.put, List.setIfInBounds_toArray, List.set_cons_zero, List.set_cons_succ]
            (refine wpAnyH_takeD (i := 19) (d := (some 35)) (v := ?_) rfl rfl (by kernel_rfl) (by kernel_rfl) (by kernel_rfl) (fun _ _ _ h => h) (Or.inl ⟨by rfl, ?_⟩) (by assumption) ?_)
            rotate_left
            focus
              intro wq hSw
              skip
              clear hSw
              go_simp
              all_goals (with_reducible rfl)
            simp only [Act.put, List.setIfInBounds_toArray, List.set_cons_zero, List.set_cons_succ]
            (refine wpAnyH_takeD (i := 20) (d := (some 36)) (v := ?_) rfl rfl (by kernel_rfl) (by kernel_rfl) (by kernel_rfl) (fun _ _ _ h => h) (Or.inl ⟨by rfl, ?_⟩) (by assumption) ?_)
            rotate_left
            focus
              intro wq hSw
              have q1 := hS1 wq hSw
              clear hSw
              go_simp
              all_goals (with_reducible rfl)
            simp only [Act.put, List.setIfInBounds_toArray, List.set_cons_zero, List.set_cons_succ]
            refine wpAnyH_ready (rs := [21]) (by kernel_rfl) (by simp) ?_
            refine AllReadyH.cons (o := _) rfl (fun K hK => ?_) AllReadyH.nil
            go_simp
            (go_at_call 70; refine (ref0_In fA fn fc acc d _ HFD.out).mono ?_; rintro e w' ⟨rfl, rfl⟩)
            refine hK.out _ _ (hZ) (fun hHeld => ?_)
            clear hK K
            (try simp only [Act.put, List.setIfInBounds_toArray, List.set_cons_zero, List.set_cons_succ])
            (refine wpAnyH_takeD (i := 22) (d := (some 38)) (v := ?_) rfl rfl (by kernel_rfl) (by kernel_rfl) (by kernel_rfl) (fun _ _ _ h => h) (Or.inl ⟨by rfl, ?_⟩) (by assumption) ?_)
            rotate_left
            focus
              intro wq hSw
              skip
              clear hSw
              go_simp
              all_goals (with_reducible rfl)
            simp only [Act.put, List.setIfInBounds_toArray, List.set_cons_zero, List.set_cons_succ]
            (refine wpAnyH_takeD (i := 23) (d := (some 39)) (v := ?_) rfl rfl (by kernel_rfl) (by kernel_rfl) (by kernel_rfl) (fun _ _ _ h => h) (Or.inl ⟨by rfl, ?_⟩) (by assumption) ?_)
            rotate_left
            focus
              intro wq hSw
              skip
              clear hSw
              go_simp
              all_goals (with_reducible rfl)
            simp only [Act.put, List.setIfInBounds_toArray, List.set_cons_zero, List.set_cons_succ]
            refine wpAnyH_done (by kernel_rfl) ?_ _
            have HBz := Lib.hid (HB.out.up hdr)
            have HFz := Lib.hid (HF.out.up hdr)
            have hbz := bel_trans hbw hdr
            have q1 := hS1 _ hZ
            clear HRD HFD
            go_wp2_with (at_builtin; refine wpList_app1 rfl (.tmp 40) (.tmp 45) rfl Y.heap.size (.slice fA fn fc) acc rfl (HFz.out.alloc _) _ d rfl (cell0_alloc _ _ _) (by rw [HFN.out]; omega) (le_alloc hbz.size) ?_; intro v1 w7 hown7 hg7 hbel7 hat7)
            (first | (go_round; (case rel => exact ⟨k + 1, by omega, by go_num, by (rw [HS.out]; exact Lib.hid hown7), Lib.hid ((HBz.out.up (bel_alloc (Below.refl _ _))).below hbel7 HY1.out.lt), (hbz.trans ((bel_alloc (Below.refl _ _)).mono hbz.size)).trans hbel7⟩); (case measure => (simp [intOf] <;> omega))) | (go_roundw; (case rel => exact ⟨k + 1, by omega, by go_num, by (rw [HS.out]; exact Lib.hid hown7), Lib.hid ((HBz.out.up (bel_alloc (Below.refl _ _))).below hbel7 HY1.out.lt), (hbz.trans ((bel_alloc (Below.refl _ _)).mono hbz.size)).trans hbel7⟩); (case measure => (simp [intOf] <;> omega))) | (refine ⟨?_, by simp [intOf] <;> omega⟩; (repeat apply Exists.intro); refine ⟨?rel, ?fr⟩; (case fr => ((repeat' apply And.intro) <;> rfl)); (case rel => exact ⟨k + 1, by omega, by go_num, by (rw [HS.out]; exact Lib.hid hown7), Lib.hid ((HBz.out.up (bel_alloc (Below.refl _ _))).below hbel7 HY1.out.lt), (hbz.trans ((bel_alloc (Below.refl _ _)).mono hbz.size)).trans hbel7⟩)))
          · have hs : fsF D.re (l.take (k + 1)) = acc := by rw [HST.out]; unfold stF; rw [if_neg (by rw [H3.out]; simp)]
            have HS := Lib.hid hs
            clear hs
            go_upto_region 6 with fail
            refine wp_region_held_drew (S := S) (by kernel_rfl) hZ0 (fun hHeld => ?_)
            have hZ := hHeld
            generalize wk.drew = Z at *
            (refine wpAnyH_takeD (i := 0) (d := (some 16)) (v := ?_) rfl rfl (by kernel_rfl) (by kernel_rfl) (by kernel_rfl) (fun _ _ _ h => h) (Or.inl ⟨by rfl, ?_⟩) (by assumption) ?_)
            rotate_left
            focus
              intro wq hSw
              skip
              clear hSw
              go_simp
              all_goals (with_reducible rfl)
            simp only [Act.put, List.setIfInBounds_toArray, List.set_cons_zero, List.set_cons_succ]
            (refine wpAnyH_takeD (i := 1) (d := (some 17)) (v := ?_) rfl rfl (by kernel_rfl) (by kernel_rfl) (by kernel_rfl) (fun _ _ _ h => h) (Or.inl ⟨by rfl, ?_⟩) (by assumption) ?_)
            rotate_left
            focus
              intro wq hSw
              skip
              clear hSw
              go_simp
              all_goals (with_reducible rfl)
            simp only [Act.put, List.setIfInBounds_toArray, List.set_cons_zero, List.set_cons_succ]
            (refine wpAnyH_takeD (i := 2) (d := (some 18)) (v := ?_) rfl rfl (by kernel_rfl) (by kernel_rfl) (by kernel_rfl) (fun _ _ _ h => h) (Or.inl ⟨by rfl, ?_⟩) (by assumption) ?_)
            rotate_left
            focus
              intro wq hSw
              skip
              clear hSw
              go_simp
              all_goals (with_reducible rfl)
            simp only [Act.put, List.setIfInBounds_toArray, List.set_cons_zero, List.set_cons_succ]
            (refine wpAnyH_takeD (i := 3) (d := (some 19)) (v := ?_) rfl rfl (by kernel_rfl) (by kernel_rfl) (by kernel_rfl) (fun _ _ _ h => h) (Or.inl ⟨by rfl, ?_⟩) (by assumption) ?_)
            rotate_left
            focus
              intro wq hSw
              have q1 := hS1 wq hSw
              clear hSw
              go_simp
              all_goals (with_reducible rfl)
            simp only [Act.put, List.setIfInBounds_toArray, List.set_cons_zero, List.set_cons_succ]
            refine wpAnyH_ready (rs := [4]) (by kernel_rfl) (by simp) ?_
            refine AllReadyH.cons (o := _) rfl (fun K hK => ?_) AllReadyH.nil
            go_simp
            (go_at_call 36; refine (refd_Digest d _ _ H1.out).mono ?_; rintro e w' ⟨rfl, rfl⟩)
            refine hK.out _ _ (hZ) (fun hHeld => ?_)
            clear hK K
            (try simp only [Act.put, List.setIfInBounds_toArray, List.set_cons_zero, List.set_cons_succ])
            (refine wpAnyH_takeD (i := 5) (d := (some 21)) (v := ?_) rfl rfl (by kernel_rfl) (by kernel_rfl) (by kernel_rfl) (fun _ _ _ h => h) (Or.inl ⟨by rfl, ?_⟩) (by assumption) ?_)
            rotate_left
            focus
              intro wq hSw
              skip
              clear hSw
              go_simp
              all_goals (with_reducible rfl)
            simp only [Act.put, List.setIfInBounds_toArray, List.set_cons_zero, List.set_cons_succ]
            (refine wpAnyH_takeD (i := 6) (d := (some 22)) (v := ?_) rfl rfl (by kernel_rfl) (by kernel_rfl) (by kernel_rfl) (fun _ _ _ h => h) (Or.inl ⟨by rfl, ?_⟩) (by assumption) ?_)
            rotate_left
            focus
              intro wq hSw
              skip
              clear hSw
              go_simp
              all_goals (with_reducible rfl)
            simp only [Act.put, List.setIfInBounds_toArray, List.set_cons_zero, List.set_cons_succ]
            (refine wpAnyH_takeD (i := 7) (d := (some 23)) (v := ?_) rfl rfl (by kernel_rfl) (by kernel_rfl) (by kernel_rfl) (fun _ _ _ h => h) (Or.inl ⟨by rfl, ?_⟩) (by assumption) ?_)
            rotate_left
            focus
              intro wq hSw
              have q1 := hS2 wq hSw
              clear hSw
              go_simp
              all_goals (with_reducible rfl)
            simp only [Act.put, List.setIfInBounds_toArray, List.set_cons_zero, List.set_cons_succ]
            (refine wpAnyH_takeD (i := 8) (d := (some 24)) (v := ?_) rfl rfl (by kernel_rfl) (by kernel_rfl) (by kernel_rfl) (fun _ _ _ h => h) (Or.inl ⟨by rfl, ?_⟩) (by assumption) ?_)
            rotate_left
            focus
              intro wq hSw
              skip
              clear hSw
              go_simp
              all_goals (with_reducible rfl)
            simp only [Act.put, List.setIfInBounds_toArray, List.set_cons_zero, List.set_cons_succ]
            (refine wpAnyH_takeD (i := 9) (d := (some 25)) (v := ?_) rfl rfl (by kernel_rfl) (by kernel_rfl) (by kernel_rfl) (fun _ _ _ h => h) (Or.inl ⟨by rfl, ?_⟩) (by assumption) ?_)
            rotate_left
            focus
              intro wq hSw
              skip
              clear hSw
              go_simp
              all_goals (with_reducible rfl)
            simp only [Act.put, List.setIfInBounds_toArray, List.set_cons_zero, List.set_cons_succ]
            (refine wpAnyH_takeD (i := 10) (d := (some 26)) (v := ?_) rfl rfl (by kernel_rfl) (by kernel_rfl) (by kernel_rfl) (fun _ _ _ h => h) (Or.inl ⟨by rfl, ?_⟩) (by assumption) ?_)
            rotate_left
            focus
              intro wq hSw
              skip
              clear hSw
              go_simp
              all_goals (with_reducible rfl)
            simp only [Act.put, List.setIfInBounds_toArray, List.set_cons_zero, List.set_cons_succ]
            (refine wpAnyH_takeD (i := 11) (d := (some 27)) (v := ?_) rfl rfl (by kernel_rfl) (by kernel_rfl) (by kernel_rfl) (fun _ _ _ h => h) (Or.inl ⟨by rfl, ?_⟩) (by assumption) ?_)
            rotate_left
            focus
              intro wq hSw
              have q1 := hS1 wq hSw
              clear hSw
              go_simp
              all_goals (with_reducible rfl)
            simp only [Act.put, List.setIfInBounds_toArray, List.set_cons_zero, List.set_cons_succ]
            refine wpAnyH_ready (rs := [12]) (by kernel_rfl) (by simp) ?_
            refine AllReadyH.cons (o := _) rfl (fun K hK => ?_) AllReadyH.nil
            go_simp
            (go_at_call 70; refine (ref0_In rA rn rc D.re d _ HRD.out).mono ?_; rintro e w' ⟨rfl, rfl⟩)
            refine hK.out _ _ (hZ) (fun hHeld => ?_)
            clear hK K
            (try simp only [Act.put, List.setIfInBounds_toArray, List.set_cons_zero, List.set_cons_succ])
            (refine wpAnyH_takeD (i := 13) (d := (some 29)) (v := ?_) rfl rfl (by kernel_rfl) (by kernel_rfl) (by kernel_rfl) (fun _ _ _ h => h) (Or.inl ⟨by rfl, ?_⟩) (by assumption) ?_)
            rotate_left
            focus
              intro wq hSw
              skip
              clear hSw
              go_simp
              all_goals (with_reducible rfl)
            simp only [Act.put, List.setIfInBounds_toArray, List.set_cons_zero, List.set_cons_succ]
            (refine wpAnyH_takeD (i := 14) (d := (some 30)) (v := ?_) rfl rfl (by kernel_rfl) (by kernel_rfl) (by kernel_rfl) (fun _ _ _ h => h) (Or.inl ⟨by rfl, ?_⟩) (by assumption) ?_)
            rotate_left
            focus
              intro wq hSw
              skip
              clear hSw
              go_simp
              all_goals (with_reducible rfl)
            simp only [Act.put, List.setIfInBounds_toArray, List.set_cons_zero, List.set_cons_succ]
            (refine wpAnyH_takeD (i := 15) (d := (some 31)) (v := ?_) rfl rfl (by kernel_rfl) (by kernel_rfl) (by kernel_rfl) (fun _ _ _ h => h) (Or.inl ⟨by rfl, ?_⟩) (by assumption) ?_)
            rotate_left
            focus
              intro wq hSw
              skip
              clear hSw
              go_simp
              all_goals (with_reducible rfl)
            simp only [Act.put, List.setIfInBounds_toArray, List.set_cons_zero, List.set_cons_succ]
            (refine wpAnyH_takeD (i := 16) (d := (some 32)) (v := ?_) rfl rfl (by kernel_rfl) (by kernel_rfl) (by kernel_rfl) (fun _ _ _ h => h) (Or.inl ⟨by rfl, ?_⟩) (by assumption) ?_)
            rotate_left
            focus
              intro wq hSw
              skip
              clear hSw
              go_simp
              all_goals (with_reducible rfl)
            simp only [Act.put, List.setIfInBounds_toArray, List.set_cons_zero, List.set_cons_succ]
            (refine wpAnyH_takeD (i := 17) (d := (some 33)) (v := ?_) rfl rfl (by kernel_rfl) (by kernel_rfl) (by kernel_rfl) (fun _ _ _ h => h) (Or.inl ⟨by rfl, ?_⟩) (by assumption) ?_)
            rotate_left
            focus
              intro wq hSw
              skip
              clear hSw
              go_simp
              all_goals (with_reducible rfl)
            simp only [Act.put, List.setIfInBounds_toArray, List.set_cons_zero, List.set_cons_succ]
            (refine wpAnyH_takeD (i := 18) (d := (some 34)) (v := ?_) rfl rfl (by kernel_rfl) (by kernel_rfl) (by kernel_rfl) (fun _ _ _ h => h) (Or.inl ⟨by rfl, ?_⟩) (by assumption) ?_)
            rotate_left
            focus
              intro wq hSw
              skip
              clear hSw
              go_simp
              all_goals (with_reducible rfl)
            simp only [Act.put, List.setIfInBounds_toArray, List.set_cons_zero, List.set_cons_succ]
            (refine wpAnyH_takeD (i := 19) (d := (some 35)) (v := ?_) rfl rfl (by kernel_rfl) (by kernel_rfl) (by kernel_rfl) (fun _ _ _ h => h) (Or.inl ⟨by rfl, ?_⟩) (by assumption) ?_)
            rotate_left
            focus
              intro wq hSw
              skip
              clear hSw
              go_simp
              all_goals (with_reducible rfl)
            simp only [Act.put, List.setIfInBounds_toArray, List.set_cons_zero, List.set_cons_succ]
            (refine wpAnyH_takeD (i := 20) (d := (some 36)) (v := ?_) rfl rfl (by kernel_rfl) (by kernel_rfl) (by kernel_rfl) (fun _ _ _ h => h) (Or.inl ⟨by rfl, ?_⟩) (by assumption) ?_)
            rotate_left
            focus
              intro wq hSw
              have q1 := hS1 wq hSw
              clear hSw
              go_simp
              all_goals (with_reducible rfl)
            simp only [Act.put, List.setIfInBounds_toArray, List.set_cons_zero, List.set_cons_succ]
            refine wpAnyH_ready (rs := [21]) (by kernel_rfl) (by simp) ?_
            refine AllReadyH.cons (o := _) rfl (fun K hK => ?_) AllReadyH.nil
            go_simp
            (go_at_call 70; refine (ref0_In fA fn fc acc d _ HFD.out).mono ?_; rintro e w' ⟨rfl, rfl⟩)
            refine hK.out _ _ (hZ) (fun hHeld => ?_)
            clear hK K
            (try simp only [Act.put, List.setIfInBounds_toArray, List.set_cons_zero, List.set_cons_succ])
            (refine wpAnyH_takeD (i := 22) (d := (some 38)) (v := ?_) rfl rfl (by kernel_rfl) (by kernel_rfl) (by kernel_rfl) (fun _ _ _ h => h) (Or.inl ⟨by rfl, ?_⟩) (by assumption) ?_)
            rotate_left
            focus
              intro wq hSw
              skip
              clear hSw
              go_simp
              all_goals (with_reducible rfl)
            simp only [Act.put, List.setIfInBounds_toArray, List.set_cons_zero, List.set_cons_succ]
            (refine wpAnyH_takeD (i := 23) (d := (some 39)) (v := ?_) rfl rfl (by kernel_rfl) (by kernel_rfl) (by kernel_rfl) (fun _ _ _ h => h) (Or.inl ⟨by rfl, ?_⟩) (by assumption) ?_)
            rotate_left
            focus
              intro wq hSw
              skip
              clear hSw
              go_simp
              all_goals (with_reducible rfl)
            simp only [Act.put, List.setIfInBounds_toArray, List.set_cons_zero, List.set_cons_succ]
            refine wpAnyH_done (by kernel_rfl) ?_ _
            go_wp2_with fail
            (first | (go_round; (case rel => exact ⟨k + 1, by omega, by go_num, by (rw [HS.out]; exact Lib.hid (HF.out.up hdr)), Lib.hid (HB.out.up hdr), bel_trans hbw hdr⟩); (case measure => (simp [intOf] <;> omega))) | (go_roundw; (case rel => exact ⟨k + 1, by omega, by go_num, by (rw [HS.out]; exact Lib.hid (HF.out.up hdr)), Lib.hid (HB.out.up hdr), bel_trans hbw hdr⟩); (case measure => (simp [intOf] <;> omega))) | (refine ⟨?_, by simp [intOf] <;> omega⟩; (repeat apply Exists.intro); refine ⟨?rel, ?fr⟩; (case fr => ((repeat' apply And.intro) <;> rfl)); (case rel => exact ⟨k + 1, by omega, by go_num, by (rw [HS.out]; exact Lib.hid (HF.out.up hdr)), Lib.hid (HB.out.up hdr), bel_trans hbw hdr⟩)))
        · have hs : fsF D.re (l.take (k + 1)) = acc := by rw [HST.out]; unfold stF; rw [if_neg (by rw [H2.out]; simp)]
          have HS := Lib.hid hs
          clear hs
          go_upto_region 6 with fail
          refine wp_region_held_drew (S := S) (by kernel_rfl) hZ0 (fun hHeld => ?_)
          have hZ := hHeld
          generalize wk.drew = Z at *
          (refine wpAnyH_takeD (i := 0) (d := (some 16)) (v := ?_) rfl rfl (by kernel_rfl) (by kernel_rfl) (by kernel_rfl) (fun _ _ _ h => h) (Or.inl ⟨by rfl, ?_⟩) (by assumption) ?_)
          rotate_left
          focus
            intro wq hSw
            skip
            clear hSw
            go_simp
            all_goals (with_reducible rfl)
          simp only [Act.put, List.setIfInBounds_toArray, List.set_cons_zero, List.set_cons_succ]
          (refine wpAnyH_takeD (i := 1) (d := (some 17)) (v := ?_) rfl rfl (by kernel_rfl) (by kernel_rfl) (by kernel_rfl) (fun _ _ _ h => h) (Or.inl ⟨by rfl, ?_⟩) (by assumption) ?_)
          rotate_left
          focus
            intro wq hSw
            skip
            clear hSw
            go_simp
            all_goals (with_reducible rfl)
          simp only [Act.put, List.setIfInBounds_toArray, List.set_cons_zero, List.set_cons_succ]
          (refine wpAnyH_takeD (i := 2) (d := (some 18)) (v := ?_) rfl rfl (by kernel_rfl) (by kernel_rfl) (by kernel_rfl) (fun _ _ _ h => h) (Or.inl ⟨by rfl, ?_⟩) (by assumption) ?_)
          rotate_left
          focus
            intro wq hSw
            skip
            clear hSw
            go_simp
            all_goals (with_reducible rfl)
          simp only [Act.put, List.setIfInBounds_toArray, List.set_cons_zero, List.set_cons_succ]
          (refine wpAnyH_takeD (i := 3) (d := (some 19)) (v := ?_) rfl rfl (by kernel_rfl) (by kernel_rfl) (by kernel_rfl) (fun _ _ _ h => h) (Or.inl ⟨by rfl, ?_⟩) (by assumption) ?_)
          rotate_left
          focus
            intro wq hSw
            have q1 := hS1 wq hSw
            clear hSw
            go_simp
            all_goals (with_reducible rfl)
          simp only [Act.put, List.setIfInBounds_toArray, List.set_cons_zero, List.set_cons_succ]
          refine wpAnyH_ready (rs := [4]) (by kernel_rfl) (by simp) ?_
          refine AllReadyH.cons (o := _) rfl (fun K hK => ?_) AllReadyH.nil
          go_simp
          (go_at_call 36; refine (refd_Digest d _ _ H1.out).mono ?_; rintro e w' ⟨rfl, rfl⟩)
          refine hK.out _ _ (hZ) (fun hHeld => ?_)
          clear hK K
          (try simp only [Act.put, List.setIfInBounds_toArray, List.set_cons_zero, List.set_cons_succ])
          (refine wpAnyH_takeD (i := 5) (d := (some 21)) (v := ?_) rfl rfl (by kernel_rfl) (by kernel_rfl) (by kernel_rfl) (fun _ _ _ h => h) (Or.inl ⟨by rfl, ?_⟩) (by assumption) ?_)
          rotate_left
          focus
            intro wq hSw
            skip
            clear hSw
            go_simp
            all_goals (with_reducible rfl)
          simp only [Act.put, List.setIfInBounds_toArray, List.set_cons_zero, List.set_cons_succ]
          (refine wpAnyH_takeD (i := 6) (d := (some 22)) (v := ?_) rfl rfl (by kernel_rfl) (by kernel_rfl) (by kernel_rfl) (fun _ _ _ h => h) (Or.inl ⟨by rfl, ?_⟩) (by assumption) ?_)
          rotate_left
          focus
            intro wq hSw
            skip
            clear hSw
            go_simp
            all_goals (with_reducible rfl)
          simp only [Act.put, List.setIfInBounds_toArray, List.set_cons_zero, List.set_cons_succ]
          (refine wpAnyH_takeD (i := 7) (d := (some 23)) (v := ?_) rfl rfl (by kernel_rfl) (by kernel_rfl) (by kernel_rfl) (fun _ _ _ h => h) (Or.inl ⟨by rfl, ?_⟩) (by assumption) ?_)
          rotate_left
          focus
            intro wq hSw
            have q1 := hS2 wq hSw
            clear hSw
            go_simp
            all_goals (with_reducible rfl)
          simp only [Act.put, List.setIfInBounds_toArray, List.set_cons_zero, List.set_cons_succ]
          (refine wpAnyH_takeD (i := 8) (d := (some 24)) (v := ?_) rfl rfl (by kernel_rfl) (by kernel_rfl) (by kernel_rfl) (fun _ _ _ h => h) (Or.inl ⟨by rfl, ?_⟩) (by assumption) ?_)
          rotate_left
          focus
            intro wq hSw
            skip
            clear hSw
            go_simp
            all_goals (with_reducible rfl)
          simp only [Act.put, List.setIfInBounds_toArray, List.set_cons_zero, List.set_cons_succ]
          (refine wpAnyH_takeD (i := 9) (d := (some 25)) (v := ?_) rfl rfl (by kernel_rfl) (by kernel_rfl) (by kernel_rfl) (fun _ _ _ h => h) (Or.inl ⟨by rfl, ?_⟩) (by assumption) ?_)
          rotate_left
          focus
            intro wq hSw
            skip
            clear hSw
            go_simp
            all_goals (with_reducible rfl)
          simp only [Act.put, List.setIfInBounds_toArray, List.set_cons_zero, List.set_cons_succ]
          (refine wpAnyH_takeD (i := 10) (d := (some 26)) (v := ?_) rfl rfl (by kernel_rfl) (by kernel_rfl) (by kernel_rfl) (fun _ _ _ h => h) (Or.inl ⟨by rfl, ?_⟩) (by assumption) ?_)
          rotate_left
          focus
            intro wq hSw
            skip
            clear hSw
            go_simp
            all_goals (with_reducible rfl)
          simp only [Act.put, List.setIfInBounds_toArray, List.set_cons_zero, List.set_cons_succ]
          (refine wpAnyH_takeD (i := 11) (d := (some 27)) (v := ?_) rfl rfl (by kernel_rfl) (by kernel_rfl) (by kernel_rfl) (fun _ _ _ h => h) (Or.inl ⟨by rfl, ?_⟩) (by assumption) ?_)
          rotate_left
          focus
            intro wq hSw
            have q1 := hS1 wq hSw
            clear hSw
            go_simp
            all_goals (with_reducible rfl)
          simp only [Act.put, List.setIfInBounds_toArray, List.set_cons_zero, List.set_cons_succ]
          refine wpAnyH_ready (rs := [12]) (by kernel_rfl) (by simp) ?_
          refine AllReadyH.cons (o := _) rfl (fun K hK => ?_) AllReadyH.nil
          go_simp
          (go_at_call 70; refine (ref0_In rA rn rc D.re d _ HRD.out).mono ?_; rintro e w' ⟨rfl, rfl⟩)
          refine hK.out _ _ (hZ) (fun hHeld => ?_)
          clear hK K
          (try simp only [Act.put, List.setIfInBounds_toArray, List.set_cons_zero, List.set_cons_succ])
          (refine wpAnyH_takeD (i := 13) (d := (some 29)) (v := ?_) rfl rfl (by kernel_rfl) (by kernel_rfl) (by kernel_rfl) (fun _ _ _ h => h) (Or.inl ⟨by rfl, ?_⟩) (by assumption) ?_)
          rotate_left
          focus
            intro wq hSw
            skip
            clear hSw
            go_simp
            all_goals (with_reducible rfl)
          simp only [Act.put, List.setIfInBounds_toArray, List.set_cons_zero, List.set_cons_succ]
          (refine wpAnyH_takeD (i := 14) (d := (some 30)) (v := ?_) rfl rfl (by kernel_rfl) (by kernel_rfl) (by kernel_rfl) (fun _ _ _ h => h) (Or.inl ⟨by rfl, ?_⟩) (by assumption) ?_)
          rotate_left
          focus
            intro wq hSw
            skip
            clear hSw
            go_simp
            all_goals (with_reducible rfl)
          simp only [Act.put, List.setIfInBounds_toArray, List.set_cons_zero, List.set_cons_succ]
          (refine wpAnyH_takeD (i := 15) (d := (some 31)) (v := ?_) rfl rfl (by kernel_rfl) (by kernel_rfl) (by kernel_rfl) (fun _ _ _ h => h) (Or.inl ⟨by rfl, ?_⟩) (by assumption) ?_)
          rotate_left
          focus
            intro wq hSw
            skip
            clear hSw
            go_simp
            all_goals (with_reducible rfl)
          simp only [Act.put, List.setIfInBounds_toArray, List.set_cons_zero, List.set_cons_succ]
          refine wpAnyH_takeD (i := 16) (d := (some 32)) (v := undef) rfl rfl (by kernel_rfl) (by kernel_rfl) (by kernel_rfl) (fun _ _ _ h => h) (Or.inr ⟨by rfl, rfl⟩) (by assumption) ?_
          simp only [Act.put, List.setIfInBounds_toArray, List.set_cons_zero, List.set_cons_succ]
          refine wpAnyH_takeD (i := 17) (d := (some 33)) (v := undef) rfl rfl (by kernel_rfl) (by kernel_rfl) (by kernel_rfl) (fun _ _ _ h => h) (Or.inr ⟨by rfl, rfl⟩) (by assumption) ?_
          simp only [Act.put, List.setIfInBounds_toArray, List.set_cons_zero, List.set_cons_succ]
          refine wpAnyH_takeD (i := 18) (d := (some 34)) (v := undef) rfl rfl (by kernel_rfl) (by kernel_rfl) (by kernel_rfl) (fun _ _ _ h => h) (Or.inr ⟨by rfl, rfl⟩) (by assumption) ?_
          simp only [Act.put, List.setIfInBounds_toArray, List.set_cons_zero, List.set_cons_succ]
          refine wpAnyH_takeD (i := 19) (d := (some 35)) (v := undef) rfl rfl (by kernel_rfl) (by kernel_rfl) (by kernel_rfl) (fun _ _ _ h => h) (Or.inr ⟨by rfl, rfl⟩) (by assumption) ?_
          simp only [Act.put, List.setIfInBounds_toArray, List.set_cons_zero, List.set_cons_succ]
          refine wpAnyH_takeD (i := 20) (d := (some 36)) (v := undef) rfl rfl (by kernel_rfl) (by kernel_rfl) (by kernel_rfl) (fun _ _ _ h => h) (Or.inr ⟨by rfl, rfl⟩) (by assumption) ?_
          simp only [Act.put, List.setIfInBounds_toArray, List.set_cons_zero, List.set_cons_succ]
          refine wpAnyH_takeD (i := 21) (d := (some 37)) (v := undef) rfl rfl (by kernel_rfl) (by kernel_rfl) (by kernel_rfl) (fun _ _ _ h => h) (Or.inr ⟨by rfl, rfl⟩) (by assumption) ?_
          simp only [Act.put, List.setIfInBounds_toArray, List.set_cons_zero, List.set_cons_succ]
          refine wpAnyH_takeD (i := 22) (d := (some 38)) (v := undef) rfl rfl (by kernel_rfl) (by kernel_rfl) (by kernel_rfl) (fun _ _ _ h => h) (Or.inr ⟨by rfl, rfl⟩) (by assumption) ?_
          simp only [Act.put, List.setIfInBounds_toArray, List.set_cons_zero, List.set_cons_succ]
          (refine wpAnyH_takeD (i := 23) (d := (some 39)) (v := ?_) rfl rfl (by kernel_rfl) (by kernel_rfl) (by kernel_rfl) (fun _ _ _ h => h) (Or.inl ⟨by rfl, ?_⟩) (by assumption) ?_)
          rotate_left
          focus
            intro wq hSw
            skip
            clear hSw
            go_simp
            all_goals (with_reducible rfl)
          simp only [Act.put, List.setIfInBounds_toArray, List.set_cons_zero, List.set_cons_succ]
          refine wpAnyH_done (by kernel_rfl) ?_ _
          go_wp2_with fail
          (first | (go_round; (case rel => exact ⟨k + 1, by omega, by go_num, by (rw [HS.out]; exact Lib.hid (HF.out.up hdr)), Lib.hid (HB.out.up hdr), bel_trans hbw hdr⟩); (case measure => (simp [intOf] <;> omega))) | (go_roundw; (case rel => exact ⟨k + 1, by omega, by go_num, by (rw [HS.out]; exact Lib.hid (HF.out.up hdr)), Lib.hid (HB.out.up hdr), bel_trans hbw hdr⟩); (case measure => (simp [intOf] <;> omega))) | (refine ⟨?_, by simp [intOf] <;> omega⟩; (repeat apply Exists.intro); refine ⟨?rel, ?fr⟩; (case fr => ((repeat' apply And.intro) <;> rfl)); (case rel => exact ⟨k + 1, by omega, by go_num, by (rw [HS.out]; exact Lib.hid (HF.out.up hdr)), Lib.hid (HB.out.up hdr), bel_trans hbw hdr⟩)))
    · obtain rfl : k = n := by omega
      have hd1 : decide ((k : Int) < (k : Int)) = false := by simp
      have hE : acc = fsF D.re l := by rw [← HAC.out, ← HLN.out, List.take_length]
      have HE := Lib.hid hE
      have hGX := HX.out.up hbw
      have hGR := HY3.out.up hbw
      have lgx := hGX.lt
      have fgx := hGX.frozen
      have lgr := hGR.lt
      have fgr := hGR.frozen
      have x_0 := (hGX.box).2 0 _ rfl; have x_1 := (hGX.box).2 1 _ rfl; have x_2 := (hGX.box).2 2 _ rfl; have x_3 := (hGX.box).2 3 _ rfl; have x_4 := (hGX.box).2 4 _ rfl; have x_5 := (hGX.box).2 5 _ rfl; have x_6 := (hGX.box).2 6 _ rfl; have x_7 := (hGX.box).2 7 _ rfl; have x_8 := (hGX.box).2 8 _ rfl
      have hRE2 : IntsR wk rA2 rn2 D.re := (HO1.out.work HS0.out).re.up hbw
      have hgx0 : gx < Y.heap.size := HX.out.lt
      have hgr0 : w.heap.size + 1 < Y.heap.size := HY3.out.lt
      have hsz := hbw.size
      have hre : D.re.length = rn := HRE.out.1
      have hre2 : D.re.length = rn2 := hRE2.1
      have HRE2 := Lib.hid hRE2
      have HGX := Lib.hid hGX
      have HGR := Lib.hid hGR
      have hlen : acc.length + rn2 ≤ 900000000 := by rw [HFN.out]; omega
      have hlen2 : (acc ++ D.re).length ≤ 900000000 := by simp; omega
      have HLEN := Lib.hid hlen
      have HLEN2 := Lib.hid hlen2
      clear hE hGX hGR hRE2 hre hre2 hlen hlen2 a_0 a_1 a_2 a_3 a_4 a_5 a_6 a_7 a_8
      go_upto_region 8 with fail
      go_wp2_with (at_builtin; refine wpList_appAny rfl (.tmp 47) (.tmp 49) rfl rfl Y.heap.size (.slice fA fn fc) acc rfl HF.out rA2 rn2 rc2 D.re rfl HRE2.out HLEN.out hsz ?_; intro v1 w7 hown7 hg7 hbel7 hat7; obtain ⟨sA, sc, e7, hI7, _⟩ := hown7.ints (Nat.le_trans HLEN2.out (by decide)); (obtain ⟨sn, hsn⟩ : ∃ x, (acc ++ D.re).length = x := ⟨_, rfl⟩); rw [hsn] at e7; subst e7; clear hsn; have HO7 := Lib.hid hown7; have hX7 := HGX.out.below hbel7 hgx0; have hR7 := HGR.out.below hbel7 hgr0; have l7 := hX7.lt; have l8 := hR7.lt; have f7 := hX7.frozen; have f8 := hR7.frozen; clear x_0 x_1 x_2 x_3 x_4 x_5 x_6 x_7 x_8 lgx fgx lgr fgr hown7 hg7 hat7 hI7; have b_0 := (hX7.box).2 0 _ rfl; have b_1 := (hX7.box).2 1 _ rfl; have b_2 := (hX7.box).2 2 _ rfl; have b_3 := (hX7.box).2 3 _ rfl; have b_4 := (hX7.box).2 4 _ rfl; have b_5 := (hX7.box).2 5 _ rfl; have b_6 := (hX7.box).2 6 _ rfl; have b_7 := (hX7.box).2 7 _ rfl; have b_8 := (hX7.box).2 8 _ rfl; have z_0 := (hR7.box).2 0 _ rfl; have z_1 := (hR7.box).2 1 _ rfl; have z_2 := (hR7.box).2 2 _ rfl; have z_3 := (hR7.box).2 3 _ rfl; have z_4 := (hR7.box).2 4 _ rfl; have z_5 := (hR7.box).2 5 _ rfl; have z_6 := (hR7.box).2 6 _ rfl; have z_7 := (hR7.box).2 7 _ rfl; have z_8 := (hR7.box).2 8 _ rfl; have HX7 := Lib.hid hX7; clear hX7 hR7)
      have hY7 := hbw.trans hbel7
      have hW0 : WorkO w7 (w.heap.size + 2) ⟨⟨oA2, on2, oc2⟩, ⟨tA2, tn2, tc2⟩, ⟨eA2, en2, ec2⟩, ⟨rA2, rn2, rc2⟩⟩ D := HO1.out.up hY7
      have hW7 : WorkO w7 (w.heap.size + 2) ⟨⟨oA2, on2, oc2⟩, ⟨tA2, tn2, tc2⟩, ⟨eA2, en2, ec2⟩, ⟨sA, sn, sc⟩⟩ (inW D l) := ⟨hW0.op, hW0.wa, hW0.he, by (show OwnI w7 (w.heap.size + 2) (.slice sA sn sc) (fsF D.re l ++ D.re)); (rw [← HE.out]); exact HO7.out.mono (by omega)⟩
      have hW8 := hW7.tk (TKeep.setg (o := 8) (u := .slice sA sn sc) HX7.out) twWork
      have hW9 := (hW8.low9 (g := w.heap.size + 1) (by omega) (.int .i64 D.id) (.int .i64 D.nodes) (.int .i64 D.next) (.slice oA2 on2 oc2) (.int .i64 D.age) (.int .i64 D.clock) (.slice tA2 tn2 tc2) (.slice eA2 en2 ec2) (.slice sA sn sc)).mono (B' := w.heap.size) (by omega)
      have HW9 := Lib.hid hW9
      have hbe : Below w.heap.size w w7 := hbY.trans (hY7.mono (by omega))
      have HBE := Lib.hid hbe
      have hgx1 : gx ≠ w.heap.size + 1 := by omega
      have hgx2 : ¬ w.heap.size + 1 = gx := by omega
      have hgx3 : w.heap.size + 1 < gx := by omega
      clear hW0 hW7 hW8 hW9 hbe hY7 hbel7 hbw
      go_wp2_with fail
      exact bodyPost_ret (v := .agg #[.int .i64 D.id, .int .i64 D.nodes, .int .i64 D.next, .slice oA2 on2 oc2, .int .i64 D.age, .int .i64 D.clock, .slice tA2 tn2 tc2, .slice eA2 en2 ec2, .slice sA sn sc]) (by simp [results, Tryz.results58, go_sem, *]) rfl ⟨⟨⟨oA2, on2, oc2⟩, ⟨tA2, tn2, tc2⟩, ⟨eA2, en2, ec2⟩, ⟨sA, sn, sc⟩⟩, rfl, HW9.out, by (have hbe := HBE.out; (repeat (first | (with_reducible exact Below.refl _ _) | (with_reducible assumption) | (with_reducible apply bel_alloc) | (with_reducible apply bel_drew) | (with_reducible apply bel_drewN) | (with_reducible refine bel_trans ?_ (by with_reducible assumption)) | (with_reducible refine bel_trans ?_ (HF.out _)) | ((with_reducible refine bel_set3 ?_ ?_); rotate_left; omega))))⟩
end Go.Proofs.YtgfakefcmbpboaaGreat
