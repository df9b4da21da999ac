/- droverref13.Took: what is ready without some digests. -/
import Derived.Test.YtgfakefcmbpboaaGreatWmf
import Derived.Test.YtgfakefcmbpboaaGreatWmd
namespace Go.Proofs.YtgfakefcmbpboaaGreat
open Go.RowKit
set_option linter.unusedSimpArgs false
set_option linter.unusedVariables false

theorem step_app1 {ops : Array Oper} {o : Oper} {a : Act} {w : World} {K : Act → World → Prop} {Q : Exit → Act → World → Prop} {E : Prop}
    (hg : o.guard = none) (s x : Operand) (ho : o.op = .call { callee := .builtin .append, args := #[s, x], argTypes := #[25, 25] }) (hty : o.type = 25)
    (B : Nat) (v : Value) (l : List Int) (hs : a.eval s = v) (hown : OwnI w B v l) (g : Nat) (y : Int) (hx : a.eval x = .slice (some ⟨g, 0, none⟩) 1 1) (hc : w.cell? ⟨g, 0, none⟩ = some (.int .i64 y))
    (hlen : l.length ≤ 900000000) (hB : B ≤ w.heap.size)
    (h : ∀ v' w', OwnI w' B v' (l ++ [y]) → w.grownBy w' v.ownBlock → Below B w w' → (v'.ownBlock = v.ownBlock ∨ v'.ownBlock = some w.heap.size) → K (a.put o.dst v') w') :
    if Region.wanted o (yielded ops a.tmps) = true then Oper.wp Tryz.prog o a w K Q else E := by
  have hw : Region.wanted o (yielded ops a.tmps) = true := by simp [Region.wanted, hg]
  rw [if_pos hw]
  obtain ⟨v', w', hrun, h2, h3, h4, h5⟩ := run_app_Int w B v l.length (l.map (Value.int .i64)) hown g 0 1 1 [.int .i64 y] rfl
    (fun j u hj => by cases j with
      | zero => simp at hj; subst hj; simpa using hc
      | succ j => simp at hj) (by simp [Value.oneCell']) (by omega) hB
  have hown' : OwnI w' B v' (l ++ [y]) := by unfold OwnI; simpa using h2
  exact Lib.wp_append_run w s x _ _ ho v _ hs hx v' w' (by rw [hty]; exact hrun) (h v' w' hown' h3 h4 h5)
set_option maxRecDepth 100000 in
set_option maxHeartbeats 4000000 in
theorem ref13_Took (P : WorkP) (D : WorkD) (A : Option Addr) (n c : Nat) (l : List Int) (w : World) (h : WorkR w P D) (hl : IntsR w A n l) (hn : n ≤ 1000000) (hr : D.re.length ≤ 1000000) (hs : BigD D) :
    Calls Tryz.prog 56 #[P.val D, .slice A n c] w fun e w' => ∃ P', e = .returned (WorkP.val P' (outW D l)) ∧ WorkO w' w.heap.size P' (outW D l) ∧ Below w.heap.size w w' := by
  have H := Lib.hid h
  obtain ⟨⟨oA, on, oc⟩, ⟨tA, tn, tc⟩, ⟨eA, en, ec⟩, ⟨rA, rn, rc⟩⟩ := P
  have HS0 := Lib.hid hs
  have HL := Lib.hid hl
  have HRE : Hid (IntsR w rA rn D.re) := Lib.hid h.re
  have HLN : Hid (D.re.length = rn) := Lib.hid h.re.1
  have hrn : rn ≤ 1000000 := by rw [← HLN.out]; exact hr
  clear h hl hr hs
  show Calls Tryz.prog 56 #[.agg #[.int .i64 D.id, .int .i64 D.nodes, .int .i64 D.next, .slice oA on oc, .int .i64 D.age, .int .i64 D.clock, .slice tA tn tc, .slice eA en ec, .slice rA rn rc], .slice A n c] w _
  go_enter Tryz.func56, Tryz.ntmps56
  go_wp2_with fail
  have hX1 : Blk ((w.alloc (.cells #[.int .i64 D.id, .int .i64 D.nodes, .int .i64 D.next, .slice oA on oc, .int .i64 D.age, .int .i64 D.clock, .slice tA tn tc, .slice eA en ec, .slice rA rn rc] 27)).alloc (.cells #[.int .i64 0, .int .i64 0, .int .i64 0, .slice none 0 0, .int .i64 0, .int .i64 0, .slice none 0 0, .slice none 0 0, .slice none 0 0] 27)) w.heap.size 27 [.int .i64 D.id, .int .i64 D.nodes, .int .i64 D.next, .slice oA on oc, .int .i64 D.age, .int .i64 D.clock, .slice tA tn tc, .slice eA en ec, .slice rA rn rc] := (Blk.new w 27 [.int .i64 D.id, .int .i64 D.nodes, .int .i64 D.next, .slice oA on oc, .int .i64 D.age, .int .i64 D.clock, .slice tA tn tc, .slice eA en ec, .slice rA rn rc]).up (by (repeat (first | (with_reducible exact Below.refl _ _) | (with_reducible assumption) | (with_reducible apply bel_alloc) | (with_reducible apply bel_drew) | (with_reducible apply bel_drewN) | (with_reducible refine bel_trans ?_ (by with_reducible assumption)) | (with_reducible refine bel_trans ?_ (HF.out _)) | (with_reducible refine bel_set ?_ (by simp) _) | (with_reducible refine bel_set ?_ (by simp; omega) _) | (with_reducible refine bel_set ?_ (by omega) _))))
  have hX3 : Blk ((w.alloc (.cells #[.int .i64 D.id, .int .i64 D.nodes, .int .i64 D.next, .slice oA on oc, .int .i64 D.age, .int .i64 D.clock, .slice tA tn tc, .slice eA en ec, .slice rA rn rc] 27)).alloc (.cells #[.int .i64 0, .int .i64 0, .int .i64 0, .slice none 0 0, .int .i64 0, .int .i64 0, .slice none 0 0, .slice none 0 0, .slice none 0 0] 27)) (w.heap.size + 1) 27 [.int .i64 0, .int .i64 0, .int .i64 0, .slice none 0 0, .int .i64 0, .int .i64 0, .slice none 0 0, .slice none 0 0, .slice none 0 0] := by
    have := Blk.new (w.alloc (.cells #[.int .i64 D.id, .int .i64 D.nodes, .int .i64 D.next, .slice oA on oc, .int .i64 D.age, .int .i64 D.clock, .slice tA tn tc, .slice eA en ec, .slice rA rn rc] 27)) 27 [.int .i64 0, .int .i64 0, .int .i64 0, .slice none 0 0, .int .i64 0, .int .i64 0, .slice none 0 0, .slice none 0 0, .slice none 0 0]
    simpa using this
  have hbX : Below w.heap.size w ((w.alloc (.cells #[.int .i64 D.id, .int .i64 D.nodes, .int .i64 D.next, .slice oA on oc, .int .i64 D.age, .int .i64 D.clock, .slice tA tn tc, .slice eA en ec, .slice rA rn rc] 27)).alloc (.cells #[.int .i64 0, .int .i64 0, .int .i64 0, .slice none 0 0, .int .i64 0, .int .i64 0, .slice none 0 0, .slice none 0 0, .slice none 0 0] 27)) := by (repeat (first | (with_reducible exact Below.refl _ _) | (with_reducible assumption) | (with_reducible apply bel_alloc) | (with_reducible apply bel_drew) | (with_reducible apply bel_drewN) | (with_reducible refine bel_trans ?_ (by with_reducible assumption)) | (with_reducible refine bel_trans ?_ (HF.out _)) | (with_reducible refine bel_set ?_ (by simp) _) | (with_reducible refine bel_set ?_ (by simp; omega) _) | (with_reducible refine bel_set ?_ (by omega) _)))
  generalize ((w.alloc (.cells #[.int .i64 D.id, .int .i64 D.nodes, .int .i64 D.next, .slice oA on oc, .int .i64 D.age, .int .i64 D.clock, .slice tA tn tc, .slice eA en ec, .slice rA rn rc] 27)).alloc (.cells #[.int .i64 0, .int .i64 0, .int .i64 0, .slice none 0 0, .int .i64 0, .int .i64 0, .slice none 0 0, .slice none 0 0, .slice none 0 0] 27)) = X at *
  have HX1 := Lib.hid hX1
  have HX3 := Lib.hid hX3
  clear hX1 hX3
  refine (ref0_CopyWorker ⟨⟨oA, on, oc⟩, ⟨tA, tn, tc⟩, ⟨eA, en, ec⟩, ⟨rA, rn, rc⟩⟩ D _ (H.out.up hbX) HS0.out).mono ?_
  rintro e w1 ⟨⟨⟨oA2, on2, oc2⟩, ⟨tA2, tn2, tc2⟩, ⟨eA2, en2, ec2⟩, ⟨rA2, rn2, rc2⟩⟩, he1, hO1, hb1⟩
  simp only [WorkP.val] at he1
  subst he1
  have hb0 : Below w1.heap.size w1 (w1.alloc (.cells #[.int .i64 D.id, .int .i64 D.nodes, .int .i64 D.next, .slice oA2 on2 oc2, .int .i64 D.age, .int .i64 D.clock, .slice tA2 tn2 tc2, .slice eA2 en2 ec2, .slice none 0 0] 27)) := by (repeat (first | (with_reducible exact Below.refl _ _) | (with_reducible assumption) | (with_reducible apply bel_alloc) | (with_reducible apply bel_drew) | (with_reducible apply bel_drewN) | (with_reducible refine bel_trans ?_ (by with_reducible assumption)) | (with_reducible refine bel_trans ?_ (HF.out _)) | (with_reducible refine bel_set ?_ (by simp) _) | (with_reducible refine bel_set ?_ (by simp; omega) _) | (with_reducible refine bel_set ?_ (by omega) _)))
  have HX : Hid (Blk (w1.alloc (.cells #[.int .i64 D.id, .int .i64 D.nodes, .int .i64 D.next, .slice oA2 on2 oc2, .int .i64 D.age, .int .i64 D.clock, .slice tA2 tn2 tc2, .slice eA2 en2 ec2, .slice none 0 0] 27)) w1.heap.size 27 [.int .i64 D.id, .int .i64 D.nodes, .int .i64 D.next, .slice oA2 on2 oc2, .int .i64 D.age, .int .i64 D.clock, .slice tA2 tn2 tc2, .slice eA2 en2 ec2, .slice none 0 0]) := Lib.hid (Blk.new w1 27 [.int .i64 D.id, .int .i64 D.nodes, .int .i64 D.next, .slice oA2 on2 oc2, .int .i64 D.age, .int .i64 D.clock, .slice tA2 tn2 tc2, .slice eA2 en2 ec2, .slice none 0 0])
  have HY1 := Lib.hid ((HX1.out.up hb1).up hb0)
  have HY3 := Lib.hid ((HX3.out.up hb1).up hb0)
  have hsz1 : w.heap.size + 2 ≤ w1.heap.size := by have := (HX3.out.up hb1).lt; omega
  have HO1 := Lib.hid ((hO1.mono (B' := w.heap.size + 2) (by have := HX3.out.lt; omega)).up hb0)
  have hbY := bel_trans (bel_trans hbX hb1) hb0
  go_wp2_with fail
  obtain ⟨gx, hgx⟩ : ∃ g, g = w1.heap.size := ⟨_, rfl⟩
  obtain ⟨Y, hY⟩ : ∃ Y, Y = (w1.alloc (.cells #[.int .i64 D.id, .int .i64 D.nodes, .int .i64 D.next, .slice oA2 on2 oc2, .int .i64 D.age, .int .i64 D.clock, .slice tA2 tn2 tc2, .slice eA2 en2 ec2, .slice none 0 0] 27)) := ⟨_, rfl⟩
  rw [← hY, ← hgx] at HX ⊢
  rw [← hY] at HY1 HY3 HO1 hbY
  rw [← hgx] at hsz1
  clear hY hgx HX1 HX3 hO1 hb1 hb0 hbX
  have hgxY := HX.out.lt
  have hwY : w.heap.size < gx := by omega
  go_loopw [6] (fun ix wr => ∃ (k : Nat) (fA : Option Addr) (fn fc : Nat), k ≤ rn ∧ ix = .int .i64 k ∧ Hid (OwnI wr Y.heap.size (.slice fA fn fc) (outL l (D.re.take k))) ∧ Hid (Blk wr gx 27 [.int .i64 D.id, .int .i64 D.nodes, .int .i64 D.next, .slice oA2 on2 oc2, .int .i64 D.age, .int .i64 D.clock, .slice tA2 tn2 tc2, .slice eA2 en2 ec2, .slice fA fn fc]) ∧ But Y.heap.size gx Y wr) (fun ix _ => rn - (intOf ix).toNat)
  case atStart => exact ⟨0, none, 0, 0, Nat.zero_le _, rfl, Lib.hid (OwnI.nil _ _), HX, But.refl _ _ _⟩
  case round =>
    obtain ⟨k, fA, fn, fc, hk, rfl, HF, HG, hbut⟩ := hrel
    (obtain ⟨wk, hwk⟩ : ∃ x, x = wr := ⟨_, rfl⟩); subst hwk
    have hbW : Below w.heap.size w wk := hbY.trans ((hbut.below (Nat.le_of_lt hgxY)).mono (by omega))
    have HB := Lib.hid (But.blk hbut HY1.out HY1.out.lt (by omega))
    have hszk := hbut.size
    have lb := HB.out.lt
    have a_0 := (HB.out.box).2 0 _ rfl; have a_1 := (HB.out.box).2 1 _ rfl; have a_2 := (HB.out.box).2 2 _ rfl; have a_3 := (HB.out.box).2 3 _ rfl; have a_4 := (HB.out.box).2 4 _ rfl; have a_5 := (HB.out.box).2 5 _ rfl; have a_6 := (HB.out.box).2 6 _ rfl; have a_7 := (HB.out.box).2 7 _ rfl; have a_8 := (HB.out.box).2 8 _ rfl
    by_cases hlt : k < rn
    · obtain ⟨b, off, rfl, hb, hc⟩ := HRE.out.2.2 (by omega)
      have hck := (hbW.cell (p := ⟨b, off + k, none⟩) hb).trans (hc k hlt)
      have hbl : b < wk.heap.size := Nat.lt_of_lt_of_le hb hbW.size
      obtain ⟨x, hx⟩ : ∃ x, nth D.re k = x := ⟨_, rfl⟩
      rw [hx] at hck
      obtain ⟨y, hy⟩ : ∃ y, memS l x = y := ⟨_, rfl⟩
      have hI := inS_lt l x y hy
      have HX2 := Lib.hid hx
      have HY := Lib.hid hy
      clear hc hx hy
      cases y
      · have hs : outL l (D.re.take (k + 1)) = outL l (D.re.take k) ++ [x] := by rw [outL_yes (by rw [HLN.out]; exact hlt) (by rw [HX2.out]; exact HY.out), HX2.out]
        have HS := Lib.hid hs
        have hl0 : (outL l (D.re.take k)).length ≤ 1000000 := by have h1 := outL_len l (D.re.take k); have h2 : (D.re.take k).length ≤ k := (by rw [List.length_take]; omega); omega
        obtain ⟨acc, hacc⟩ : ∃ q, outL l (D.re.take k) = q := ⟨_, rfl⟩
        rw [hacc] at HF hl0 HS
        have hlen : acc.length ≤ 900000000 := by omega
        clear hs hacc
        obtain ⟨S, hSd⟩ : ∃ S : World → Prop, S = fun Q => Q.cell? ⟨b, off + k, none⟩ = some (.int .i64 x) ∧ Q.cell? ⟨w.heap.size, 8, none⟩ = some (.slice (some ⟨b, off, none⟩) rn rc) := ⟨_, rfl⟩
        have hS1 : ∀ Q, S Q → Q.cell? ⟨b, off + k, none⟩ = some (.int .i64 x) := fun Q h => by rw [hSd] at h; exact h.1
        have hS2 : ∀ Q, S Q → Q.cell? ⟨w.heap.size, 8, none⟩ = some (.slice (some ⟨b, off, none⟩) rn rc) := fun Q h => by rw [hSd] at h; exact h.2
        have hS9 : ∀ Q, But Y.heap.size gx Y Q → S Q := fun Q hQ => by
          rw [hSd]
          have hbQ : Below w.heap.size w Q := hbY.trans ((hQ.below (Nat.le_of_lt hgxY)).mono (by omega))
          exact ⟨(hbQ.cell (p := ⟨b, off + k, none⟩) hb).trans ((hbW.cell (p := ⟨b, off + k, none⟩) hb).symm.trans hck), (But.blk hQ HY1.out HY1.out.lt (by omega)).box.2 8 _ rfl⟩
        have hS0 : ∀ Q, Below wk.heap.size wk Q → S Q := fun Q hQ => hS9 Q (hbut.trans (But.of_below (hQ.mono hszk)))
        have hc8 : ∀ Q, Below wk.heap.size wk Q → Q.cell? ⟨gx, 8, none⟩ = some (.slice fA fn fc) := fun Q hQ => (HG.out.up hQ).box.2 8 _ rfl
        have hdr : Below wk.heap.size wk wk.drew := bel_drew (Below.refl _ _)
        clear hSd
        go_upto_region 7 with (go_at_call 70; refine (ref0_In A n c l x _ (HL.out.up hbW)).mono ?_; rintro e w' ⟨rfl, rfl⟩)
        clear hck a_0 a_1 a_2 a_3 a_4 a_5 a_6 a_7 a_8
        refine wp_region_held_drew (S := S) (by kernel_rfl) (hS0 _ hdr) (fun hHeld => ?_)
        have hZ := hHeld
        generalize wk.drew = Z at *
        (refine wpAnyH_takeD (i := 0) (d := (some 25)) (v := ?_) rfl rfl (by kernel_rfl) (by kernel_rfl) (by kernel_rfl) (fun _ _ _ h => h) (Or.inl ⟨by rfl, ?_⟩) (by assumption) ?_)
        rotate_left
        focus
          intro wq hSw
          skip
          clear hSw
          go_simp
          all_goals (with_reducible rfl)
        simp only [Act.put, List.setIfInBounds_toArray, List.set_cons_zero, List.set_cons_succ]
        (refine wpAnyH_takeD (i := 2) (d := (some 27)) (v := ?_) rfl rfl (by kernel_rfl) (by kernel_rfl) (by kernel_rfl) (fun _ _ _ h => h) (Or.inl ⟨by rfl, ?_⟩) (by assumption) ?_)
        rotate_left
        focus
          intro wq hSw
          skip
          clear hSw
          go_simp
          all_goals (with_reducible rfl)
        simp only [Act.put, List.setIfInBounds_toArray, List.set_cons_zero, List.set_cons_succ]
        (refine wpAnyH_takeD (i := 3) (d := (some 28)) (v := ?_) rfl rfl (by kernel_rfl) (by kernel_rfl) (by kernel_rfl) (fun _ _ _ h => h) (Or.inl ⟨by rfl, ?_⟩) (by assumption) ?_)
        rotate_left
        focus
          intro wq hSw
          have q1 := hS2 wq hSw
          clear hSw
          go_simp
          all_goals (with_reducible rfl)
        simp only [Act.put, List.setIfInBounds_toArray, List.set_cons_zero, List.set_cons_succ]
        (refine wpAnyH_takeD (i := 4) (d := (some 29)) (v := ?_) rfl rfl (by kernel_rfl) (by kernel_rfl) (by kernel_rfl) (fun _ _ _ h => h) (Or.inl ⟨by rfl, ?_⟩) (by assumption) ?_)
        rotate_left
        focus
          intro wq hSw
          skip
          clear hSw
          go_simp
          all_goals (with_reducible rfl)
        simp only [Act.put, List.setIfInBounds_toArray, List.set_cons_zero, List.set_cons_succ]
        (refine wpAnyH_takeD (i := 5) (d := (some 30)) (v := ?_) rfl rfl (by kernel_rfl) (by kernel_rfl) (by kernel_rfl) (fun _ _ _ h => h) (Or.inl ⟨by rfl, ?_⟩) (by assumption) ?_)
        rotate_left
        focus
          intro wq hSw
          skip
          clear hSw
          go_simp
          all_goals (with_reducible rfl)
        simp only [Act.put, List.setIfInBounds_toArray, List.set_cons_zero, List.set_cons_succ]
        (refine wpAnyH_takeD (i := 6) (d := (some 31)) (v := ?_) rfl rfl (by kernel_rfl) (by kernel_rfl) (by kernel_rfl) (fun _ _ _ h => h) (Or.inl ⟨by rfl, ?_⟩) (by assumption) ?_)
        rotate_left
        focus
          intro wq hSw
          have q1 := hS1 wq hSw
          clear hSw
          go_simp
          all_goals (with_reducible rfl)
        simp only [Act.put, List.setIfInBounds_toArray, List.set_cons_zero, List.set_cons_succ]
        refine wpAnyH_ready (rs := [1, 7]) (by kernel_rfl) (by simp) ?_
        refine AllReadyH.cons (o := _) rfl (fun K hK => ?_) (AllReadyH.cons (o := _) rfl (fun K hK => ?_) AllReadyH.nil)
        · skip
          have q9 := hc8 _ (hdr)
          go_simp
          clear q9
          refine hK.out _ _ (hS0 _ (hdr)) (fun hHeld => ?_)
          clear hK K
          (try simp only [Act.put, List.setIfInBounds_toArray, List.set_cons_zero, List.set_cons_succ])
          refine wpAnyH_ready (rs := [7]) (by kernel_rfl) (by simp) ?_
          refine AllReadyH.cons (o := _) rfl (fun K hK => ?_) AllReadyH.nil
          go_simp
          obtain ⟨NB, hNB⟩ : ∃ N, N = Z.heap.size := ⟨_, rfl⟩
          obtain ⟨ZB, hZB⟩ : ∃ Zq : World, Zq = Z.alloc (.cells #[.int .i64 x] 3) := ⟨_, rfl⟩
          rw [← hNB, ← hZB]
          have hkB : BoxR ZB NB [.int .i64 x] := by rw [hZB, hNB]; exact BoxR.new _ [.int .i64 x] 3
          have hbB : Below Z.heap.size Z ZB := by rw [hZB]; exact bel_alloc (Below.refl _ _)
          have hbB2 := bel_trans (hdr) hbB
          clear hNB hZB
          refine hK.out _ _ (hS0 _ hbB2) (fun hHeld => ?_)
          clear hK K
          (try simp only [Act.put, List.setIfInBounds_toArray, List.set_cons_zero, List.set_cons_succ])
          refine wpAnyH_ready (rs := [8]) (by kernel_rfl) (by simp) ?_
          refine AllReadyH.cons (o := _) rfl (fun K hK => ?_) AllReadyH.nil
          refine step_app1 rfl (.tmp 26) (.tmp 32) rfl rfl Y.heap.size (.slice fA fn fc) acc (by simp [Act.eval, Act.put]) (HF.out.up hbB2) NB x (by simp [Act.eval, Act.put]) (hkB.2 0 _ rfl) hlen (Nat.le_trans hszk hbB2.size) ?_
          intro v7 w7 hown7 hg7 hb7 hat7
          obtain ⟨A7, c7, e7, _⟩ := hown7.ints (by simp; omega)
          obtain ⟨n7, hn7⟩ : ∃ q, (acc ++ [x]).length = q := ⟨_, rfl⟩
          rw [hn7] at e7
          subst e7
          have hbut7 := hbut.trans ((But.of_below (hbB2.mono hszk)).trans (But.of_below hb7))
          refine hK.out _ _ (hS9 _ hbut7) (fun hHeld => ?_)
          clear hK K
          (try simp only [Act.put, List.setIfInBounds_toArray, List.set_cons_zero, List.set_cons_succ])
          (refine wpAnyH_takeD (i := 9) (d := (some 34)) (v := ?_) rfl rfl (by kernel_rfl) (by kernel_rfl) (by kernel_rfl) (fun _ _ _ h => h) (Or.inl ⟨by rfl, ?_⟩) (by assumption) ?_)
          rotate_left
          focus
            intro wq hSw
            skip
            clear hSw
            go_simp
            all_goals (with_reducible rfl)
          simp only [Act.put, List.setIfInBounds_toArray, List.set_cons_zero, List.set_cons_succ]
          refine wpAnyH_ready (rs := [10]) (by kernel_rfl) (by simp) ?_
          refine AllReadyH.cons (o := _) rfl (fun K hK => ?_) AllReadyH.nil
          have hG7 : Blk w7 gx 27 [.int .i64 D.id, .int .i64 D.nodes, .int .i64 D.next, .slice oA2 on2 oc2, .int .i64 D.age, .int .i64 D.clock, .slice tA2 tn2 tc2, .slice eA2 en2 ec2, .slice fA fn fc] := (HG.out.up hbB2).below hb7 hgxY
          have qf := hG7.frozen
          have ql := hG7.lt
          have q9 := hG7.box.2 8 _ rfl
          go_simp
          clear qf ql q9
          have hG8 := hG7.set_ 8 (.slice A7 n7 c7)
          have hO8 := own_tk (show World.ownsRow _ Y.heap.size 3 1 _ _ _ from hown7) (TKeep.setg (o := 8) (u := .slice A7 n7 c7) hG7) (by decide)
          refine hK.out _ _ (hS9 _ hbut7.setg) (fun hHeld => ?_)
          clear hK K
          (try simp only [Act.put, List.setIfInBounds_toArray, List.set_cons_zero, List.set_cons_succ])
          refine wpAnyH_done (by kernel_rfl) ?_ _
          have HG8 := Lib.hid hG8
          have HO8 : Hid (OwnI _ _ _ _) := Lib.hid hO8
          have hbut8 := hbut7.setg (o := 8) (u := .slice A7 n7 c7)
          clear hG8 hO8 hG7 hown7 hg7 hb7 hat7 hbB2 hbB hkB hHeld hZ
          go_wp2_with fail
          (first | (go_round; (case rel => exact ⟨k + 1, A7, n7, c7, by omega, by go_num, by (rw [HS.out]; exact HO8), HG8, hbut8⟩); (case measure => (simp [intOf] <;> omega))) | (go_roundw; (case rel => exact ⟨k + 1, A7, n7, c7, by omega, by go_num, by (rw [HS.out]; exact HO8), HG8, hbut8⟩); (case measure => (simp [intOf] <;> omega))) | (refine ⟨?_, by simp [intOf] <;> omega⟩; (repeat apply Exists.intro); refine ⟨?rel, ?fr⟩; (case fr => ((repeat' apply And.intro) <;> rfl)); (case rel => exact ⟨k + 1, A7, n7, c7, by omega, by go_num, by (rw [HS.out]; exact HO8), HG8, hbut8⟩)))
        · skip
          go_simp
          obtain ⟨NB, hNB⟩ : ∃ N, N = Z.heap.size := ⟨_, rfl⟩
          obtain ⟨ZB, hZB⟩ : ∃ Zq : World, Zq = Z.alloc (.cells #[.int .i64 x] 3) := ⟨_, rfl⟩
          rw [← hNB, ← hZB]
          have hkB : BoxR ZB NB [.int .i64 x] := by rw [hZB, hNB]; exact BoxR.new _ [.int .i64 x] 3
          have hbB : Below Z.heap.size Z ZB := by rw [hZB]; exact bel_alloc (Below.refl _ _)
          have hbB2 := bel_trans (hdr) hbB
          clear hNB hZB
          refine hK.out _ _ (hS0 _ hbB2) (fun hHeld => ?_)
          clear hK K
          (try simp only [Act.put, List.setIfInBounds_toArray, List.set_cons_zero, List.set_cons_succ])
          refine wpAnyH_ready (rs := [1]) (by kernel_rfl) (by simp) ?_
          refine AllReadyH.cons (o := _) rfl (fun K hK => ?_) AllReadyH.nil
          have q9 := hc8 _ (hbB2)
          go_simp
          clear q9
          refine hK.out _ _ (hS0 _ (hbB2)) (fun hHeld => ?_)
          clear hK K
          (try simp only [Act.put, List.setIfInBounds_toArray, List.set_cons_zero, List.set_cons_succ])
          refine wpAnyH_ready (rs := [8]) (by kernel_rfl) (by simp) ?_
          refine AllReadyH.cons (o := _) rfl (fun K hK => ?_) AllReadyH.nil
          refine step_app1 rfl (.tmp 26) (.tmp 32) rfl rfl Y.heap.size (.slice fA fn fc) acc (by simp [Act.eval, Act.put]) (HF.out.up hbB2) NB x (by simp [Act.eval, Act.put]) (hkB.2 0 _ rfl) hlen (Nat.le_trans hszk hbB2.size) ?_
          intro v7 w7 hown7 hg7 hb7 hat7
          obtain ⟨A7, c7, e7, _⟩ := hown7.ints (by simp; omega)
          obtain ⟨n7, hn7⟩ : ∃ q, (acc ++ [x]).length = q := ⟨_, rfl⟩
          rw [hn7] at e7
          subst e7
          have hbut7 := hbut.trans ((But.of_below (hbB2.mono hszk)).trans (But.of_below hb7))
          refine hK.out _ _ (hS9 _ hbut7) (fun hHeld => ?_)
          clear hK K
          (try simp only [Act.put, List.setIfInBounds_toArray, List.set_cons_zero, List.set_cons_succ])
          (refine wpAnyH_takeD (i := 9) (d := (some 34)) (v := ?_) rfl rfl (by kernel_rfl) (by kernel_rfl) (by kernel_rfl) (fun _ _ _ h => h) (Or.inl ⟨by rfl, ?_⟩) (by assumption) ?_)
          rotate_left
          focus
            intro wq hSw
            skip
            clear hSw
            go_simp
            all_goals (with_reducible rfl)
          simp only [Act.put, List.setIfInBounds_toArray, List.set_cons_zero, List.set_cons_succ]
          refine wpAnyH_ready (rs := [10]) (by kernel_rfl) (by simp) ?_
          refine AllReadyH.cons (o := _) rfl (fun K hK => ?_) AllReadyH.nil
          have hG7 : Blk w7 gx 27 [.int .i64 D.id, .int .i64 D.nodes, .int .i64 D.next, .slice oA2 on2 oc2, .int .i64 D.age, .int .i64 D.clock, .slice tA2 tn2 tc2, .slice eA2 en2 ec2, .slice fA fn fc] := (HG.out.up hbB2).below hb7 hgxY
          have qf := hG7.frozen
          have ql := hG7.lt
          have q9 := hG7.box.2 8 _ rfl
          go_simp
          clear qf ql q9
          have hG8 := hG7.set_ 8 (.slice A7 n7 c7)
          have hO8 := own_tk (show World.ownsRow _ Y.heap.size 3 1 _ _ _ from hown7) (TKeep.setg (o := 8) (u := .slice A7 n7 c7) hG7) (by decide)
          refine hK.out _ _ (hS9 _ hbut7.setg) (fun hHeld => ?_)
          clear hK K
          (try simp only [Act.put, List.setIfInBounds_toArray, List.set_cons_zero, List.set_cons_succ])
          refine wpAnyH_done (by kernel_rfl) ?_ _
          have HG8 := Lib.hid hG8
          have HO8 : Hid (OwnI _ _ _ _) := Lib.hid hO8
          have hbut8 := hbut7.setg (o := 8) (u := .slice A7 n7 c7)
          clear hG8 hO8 hG7 hown7 hg7 hb7 hat7 hbB2 hbB hkB hHeld hZ
          go_wp2_with fail
          (first | (go_round; (case rel => exact ⟨k + 1, A7, n7, c7, by omega, by go_num, by (rw [HS.out]; exact HO8), HG8, hbut8⟩); (case measure => (simp [intOf] <;> omega))) | (go_roundw; (case rel => exact ⟨k + 1, A7, n7, c7, by omega, by go_num, by (rw [HS.out]; exact HO8), HG8, hbut8⟩); (case measure => (simp [intOf] <;> omega))) | (refine ⟨?_, by simp [intOf] <;> omega⟩; (repeat apply Exists.intro); refine ⟨?rel, ?fr⟩; (case fr => ((repeat' apply And.intro) <;> rfl)); (case rel => exact ⟨k + 1, A7, n7, c7, by omega, by go_num, by (rw [HS.out]; exact HO8), HG8, hbut8⟩)))
      · have hs : outL l (D.re.take (k + 1)) = outL l (D.re.take k) := by rw [outL_no (by rw [HLN.out]; exact hlt) (by rw [HX2.out]; exact HY.out)]
        have HS := Lib.hid hs
        clear hs
        go_wp2_with (go_at_call 70; refine (ref0_In A n c l x _ (HL.out.up hbW)).mono ?_; rintro e w' ⟨rfl, rfl⟩)
        (first | (go_round; (case rel => exact ⟨k + 1, fA, fn, fc, by omega, by go_num, by (rw [HS.out]; exact HF), HG, hbut⟩); (case measure => (simp [intOf] <;> omega))) | (go_roundw; (case rel => exact ⟨k + 1, fA, fn, fc, by omega, by go_num, by (rw [HS.out]; exact HF), HG, hbut⟩); (case measure => (simp [intOf] <;> omega))) | (refine ⟨?_, by simp [intOf] <;> omega⟩; (repeat apply Exists.intro); refine ⟨?rel, ?fr⟩; (case fr => ((repeat' apply And.intro) <;> rfl)); (case rel => exact ⟨k + 1, fA, fn, fc, by omega, by go_num, by (rw [HS.out]; exact HF), HG, hbut⟩)))
    · obtain rfl : k = rn := by omega
      have hd1 : decide ((k : Int) < (k : Int)) = false := by simp
      have hE : D.re.take k = D.re := by rw [← HLN.out, List.take_length]
      rw [hE] at HF
      have hGR := But.blk hbut HY3.out HY3.out.lt (by omega)
      have hG := HG.out
      have lgx := hG.lt
      have lgr := hGR.lt
      have fgr := hGR.frozen
      have x_0 := (hG.box).2 0 _ rfl; have x_1 := (hG.box).2 1 _ rfl; have x_2 := (hG.box).2 2 _ rfl; have x_3 := (hG.box).2 3 _ rfl; have x_4 := (hG.box).2 4 _ rfl; have x_5 := (hG.box).2 5 _ rfl; have x_6 := (hG.box).2 6 _ rfl; have x_7 := (hG.box).2 7 _ rfl; have x_8 := (hG.box).2 8 _ rfl
      have z_0 := (hGR.box).2 0 _ rfl; have z_1 := (hGR.box).2 1 _ rfl; have z_2 := (hGR.box).2 2 _ rfl; have z_3 := (hGR.box).2 3 _ rfl; have z_4 := (hGR.box).2 4 _ rfl; have z_5 := (hGR.box).2 5 _ rfl; have z_6 := (hGR.box).2 6 _ rfl; have z_7 := (hGR.box).2 7 _ rfl; have z_8 := (hGR.box).2 8 _ rfl
      have hO1 := HO1.out.tk (TKeep.of_but HX.out hbut) twWork
      have hO2 : WorkO wk (w.heap.size + 2) ⟨⟨oA2, on2, oc2⟩, ⟨tA2, tn2, tc2⟩, ⟨eA2, en2, ec2⟩, ⟨fA, fn, fc⟩⟩ (outW D l) := ⟨hO1.op, hO1.wa, hO1.he, HF.out.mono (by have := HX.out.lt; omega)⟩
      have hO9 := (hO2.low9 (g := w.heap.size + 1) (by omega) (.int .i64 D.id) (.int .i64 D.nodes) (.int .i64 D.next) (.slice oA2 on2 oc2) (.int .i64 D.age) (.int .i64 D.clock) (.slice tA2 tn2 tc2) (.slice eA2 en2 ec2) (.slice fA fn fc)).mono (B' := w.heap.size) (by omega)
      have HO9 := Lib.hid hO9
      have HBE := Lib.hid hbW
      have hgx1 : gx ≠ w.heap.size + 1 := by omega
      have hgx2 : ¬ w.heap.size + 1 = gx := by omega
      clear hE hGR hG hO1 hO2 hO9 hbW HF HG hbut
      go_wp2_with fail
      exact bodyPost_ret (v := .agg #[.int .i64 D.id, .int .i64 D.nodes, .int .i64 D.next, .slice oA2 on2 oc2, .int .i64 D.age, .int .i64 D.clock, .slice tA2 tn2 tc2, .slice eA2 en2 ec2, .slice fA fn fc]) (by simp [results, Tryz.results56, go_sem, *]) rfl ⟨⟨⟨oA2, on2, oc2⟩, ⟨tA2, tn2, tc2⟩, ⟨eA2, en2, ec2⟩, ⟨fA, fn, fc⟩⟩, rfl, HO9.out, by (have hbe := HBE.out; (repeat (first | (with_reducible exact Below.refl _ _) | (with_reducible assumption) | (with_reducible apply bel_alloc) | (with_reducible apply bel_drew) | (with_reducible apply bel_drewN) | (with_reducible refine bel_trans ?_ (by with_reducible assumption)) | (with_reducible refine bel_trans ?_ (HF.out _)) | ((with_reducible refine bel_set3 ?_ ?_); rotate_left; omega))))⟩
end Go.Proofs.YtgfakefcmbpboaaGreat
