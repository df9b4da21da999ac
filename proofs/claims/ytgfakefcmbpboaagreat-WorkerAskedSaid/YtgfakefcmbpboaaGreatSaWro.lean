/- What is told, at the page: Step.tells; where a digest is held: Step.find. -/
import Derived.Test.YtgfakefcmbpboaaGreatSaWy
import Derived.Test.YtgfakefcmbpboaaGreatSaWp
namespace Go.Proofs.YtgfakefcmbpboaaGreat
open Go.RowKit
set_option linter.unusedSimpArgs false
set_option linter.unusedVariables false

set_option maxRecDepth 100000 in
set_option maxHeartbeats 8000000 in
theorem ref13_tells (g B : Nat) (id : Int) (k1 k2 k3 k4 k5 k6 k7 k8 : Value) (uA : Option Addr) (un uc : Nat) (ps : List MsgP) (l : List MsgD) (P : MsgP) (M : MsgD) (w : World) (hg : Blk w g 70 [.int .i64 id, k1, k2, k3, k4, k5, k6, k7, k8, .slice uA un uc]) (hgB : g < B) (hB : B ≤ w.heap.size) (ho : OwnT dMsg w B (.slice uA un uc) ps l) (hl : l.length ≤ 800000000) (hm : OwnM w B P M) :
    Calls Tryz.prog 85 #[.pointer (some ⟨g, 0, none⟩), M18 P M] w fun e w' => ∃ X A n c, e = .returned (.tuple #[]) ∧ w' = X.setCell ⟨g, 9, none⟩ (.slice A n c) ∧ Below B w X ∧ KeepM w X ∧ OwnT dMsg X B (.slice A n c) (ps ++ [P]) (l ++ [sayM M id M.tt]) := by
  obtain ⟨⟨bA, bn, bc⟩, ⟨⟨xA, xn, xc⟩, ⟨yA, yn, yc⟩⟩, ⟨⟨⟨cA, cn, cc⟩, ⟨dA, dn, dc⟩⟩, ⟨sA, sn, sc⟩⟩, ⟨eA, en, ec⟩⟩ := P
  have HG := Lib.hid hg
  have HO := Lib.hid ho
  have HM := Lib.hid hm
  have hfg := hg.frozen
  have hgl := hg.lt
  have a_0 := (hg.box).2 0 _ rfl; have a_1 := (hg.box).2 1 _ rfl; have a_2 := (hg.box).2 2 _ rfl; have a_3 := (hg.box).2 3 _ rfl; have a_4 := (hg.box).2 4 _ rfl; have a_5 := (hg.box).2 5 _ rfl; have a_6 := (hg.box).2 6 _ rfl; have a_7 := (hg.box).2 7 _ rfl; have a_8 := (hg.box).2 8 _ rfl; have a_9 := (hg.box).2 9 _ rfl
  clear hg ho hm
  show Calls Tryz.prog 85 #[.pointer (some ⟨g, 0, none⟩), .agg #[.int .i64 M.ki, .int .i64 M.fr, .int .i64 M.tt, .int .i64 M.di, .int .i64 M.b.au, .int .i64 M.b.n, .slice bA bn bc, .int .i64 M.h.au, .int .i64 M.h.ro, .slice xA xn xc, .slice yA yn yc, .int .i64 M.c.h.au, .int .i64 M.c.h.ro, .slice cA cn cc, .slice dA dn dc, .int .i64 M.c.di, .slice sA sn sc, .slice eA en ec]] w _
  go_enter Tryz.func85, Tryz.ntmps85
  go_upto_region 2 with fail
  have hX : Blk (w.alloc (.cells #[.int .i64 M.ki, .int .i64 id, .int .i64 M.tt, .int .i64 M.di, .int .i64 M.b.au, .int .i64 M.b.n, .slice bA bn bc, .int .i64 M.h.au, .int .i64 M.h.ro, .slice xA xn xc, .slice yA yn yc, .int .i64 M.c.h.au, .int .i64 M.c.h.ro, .slice cA cn cc, .slice dA dn dc, .int .i64 M.c.di, .slice sA sn sc, .slice eA en ec] 49)) w.heap.size 49 [.int .i64 M.ki, .int .i64 id, .int .i64 M.tt, .int .i64 M.di, .int .i64 M.b.au, .int .i64 M.b.n, .slice bA bn bc, .int .i64 M.h.au, .int .i64 M.h.ro, .slice xA xn xc, .slice yA yn yc, .int .i64 M.c.h.au, .int .i64 M.c.h.ro, .slice cA cn cc, .slice dA dn dc, .int .i64 M.c.di, .slice sA sn sc, .slice eA en ec] := Blk.new w 49 [.int .i64 M.ki, .int .i64 id, .int .i64 M.tt, .int .i64 M.di, .int .i64 M.b.au, .int .i64 M.b.n, .slice bA bn bc, .int .i64 M.h.au, .int .i64 M.h.ro, .slice xA xn xc, .slice yA yn yc, .int .i64 M.c.h.au, .int .i64 M.c.h.ro, .slice cA cn cc, .slice dA dn dc, .int .i64 M.c.di, .slice sA sn sc, .slice eA en ec]
  have hbX : Below w.heap.size w (w.alloc (.cells #[.int .i64 M.ki, .int .i64 id, .int .i64 M.tt, .int .i64 M.di, .int .i64 M.b.au, .int .i64 M.b.n, .slice bA bn bc, .int .i64 M.h.au, .int .i64 M.h.ro, .slice xA xn xc, .slice yA yn yc, .int .i64 M.c.h.au, .int .i64 M.c.h.ro, .slice cA cn cc, .slice dA dn dc, .int .i64 M.c.di, .slice sA sn sc, .slice eA en ec] 49)) := belB
  generalize hYe : (w.alloc (.cells #[.int .i64 M.ki, .int .i64 id, .int .i64 M.tt, .int .i64 M.di, .int .i64 M.b.au, .int .i64 M.b.n, .slice bA bn bc, .int .i64 M.h.au, .int .i64 M.h.ro, .slice xA xn xc, .slice yA yn yc, .int .i64 M.c.h.au, .int .i64 M.c.h.ro, .slice cA cn cc, .slice dA dn dc, .int .i64 M.c.di, .slice sA sn sc, .slice eA en ec] 49)) = Y at *
  clear hYe
  have hG := HG.out.up hbX
  have hfY := hG.frozen
  have hgY := hG.lt
  have hxY := hX.lt
  obtain ⟨N, hN⟩ : ∃ N, N = w.heap.size := ⟨_, rfl⟩
  rw [← hN] at hX hxY ⊢
  have hgN : g < N := by omega
  have hoN : ∀ q, (Value.slice uA un uc).ownBlock = some q → q < N := fun q hq => by rw [hN]; exact (own_lt HO.out.1 q hq).2
  clear a_0 a_1 a_2 a_3 a_4 a_5 a_6 a_7 a_8 a_9 hfg
  have HGY := Lib.hid hG
  have HXY := Lib.hid hX
  have HOY := Lib.hid (HO.out.up hbX)
  have HMY := Lib.hid (HM.out.up hbX)
  have HSZ : Hid (B ≤ Y.heap.size) := Lib.hid (Nat.le_trans hB hbX.size)
  obtain ⟨S, hS⟩ : ∃ S : World → Prop, S = fun Z => Blk Z N 49 [.int .i64 M.ki, .int .i64 id, .int .i64 M.tt, .int .i64 M.di, .int .i64 M.b.au, .int .i64 M.b.n, .slice bA bn bc, .int .i64 M.h.au, .int .i64 M.h.ro, .slice xA xn xc, .slice yA yn yc, .int .i64 M.c.h.au, .int .i64 M.c.h.ro, .slice cA cn cc, .slice dA dn dc, .int .i64 M.c.di, .slice sA sn sc, .slice eA en ec] := ⟨_, rfl⟩
  have hS0 : S Y.drew := by rw [hS]; exact hX.up (bel_drew (Below.refl _ _))
  have hS1 : ∀ Z, S Z → Z.rangeAt N 0 [.int .i64 M.ki, .int .i64 id, .int .i64 M.tt, .int .i64 M.di, .int .i64 M.b.au, .int .i64 M.b.n, .slice bA bn bc, .int .i64 M.h.au, .int .i64 M.h.ro, .slice xA xn xc, .slice yA yn yc, .int .i64 M.c.h.au, .int .i64 M.c.h.ro, .slice cA cn cc, .slice dA dn dc, .int .i64 M.c.di, .slice sA sn sc, .slice eA en ec] := fun Z h => by rw [hS] at h; exact fun j u hu => by rw [Nat.zero_add]; exact h.box.2 j u hu
  have hS2 : ∀ Z, Below Y.heap.size Y Z → S Z := fun Z hZ => by rw [hS]; exact HXY.out.up hZ
  have hS3 : ∀ Z Z', Below Y.heap.size Y Z → Z.grownBy Z' (Value.slice uA un uc).ownBlock → S Z' := fun Z Z' hZ hg' => by rw [hS]; exact (HXY.out.up hZ).grown2 hg' (fun e => by have := hoN _ e; omega)
  have hS4 : ∀ Z o u, S Z → S (Z.setCell ⟨g, o, none⟩ u) := fun Z o u hZ => by rw [hS] at hZ ⊢; exact hZ.far (p := ⟨g, o, none⟩) (by show N ≠ g; omega) u
  have hc9 : ∀ Z, Below Y.heap.size Y Z → Z.cell? ⟨g, 9, none⟩ = some (.slice uA un uc) ∧ g < Z.heap.size := fun Z hZ => ⟨(HGY.out.up hZ).box.2 9 _ rfl, (HGY.out.up hZ).lt⟩
  clear hG hX hS
  refine wp_region_held_drew (S := S) (by kernel_rfl) hS0 (fun hHeld => ?_)
  have hbd : Below Y.heap.size Y Y.drew := bel_drew (Below.refl _ _)
  generalize Y.drew = Z at *
  (refine wpAnyH_tk 0 (some 10) (v := ?_) rfl rfl ?_ ?_; rotate_left; (focus (intro wq hSw; (try dsimp only at hSw); go_simp; all_goals (with_reducible rfl))); simp only [Act.put, lzT, lzZ, lzS])
  (refine wpAnyH_tk 1 (some 11) (v := ?_) rfl rfl ?_ ?_; rotate_left; (focus (intro wq hSw; (try dsimp only at hSw); go_simp; all_goals (with_reducible rfl))); simp only [Act.put, lzT, lzZ, lzS])
  (refine wpAnyH_tk 2 (some 12) (v := ?_) rfl rfl ?_ ?_; rotate_left; (focus (intro wq hSw; (try dsimp only at hSw); go_simp; all_goals (with_reducible rfl))); simp only [Act.put, lzT, lzZ, lzS])
  (refine wpAnyH_tk 3 (some 13) (v := ?_) rfl rfl ?_ ?_; rotate_left; (focus (intro wq hSw; (try dsimp only at hSw); go_simp; all_goals (with_reducible rfl))); simp only [Act.put, lzT, lzZ, lzS])
  refine wpAnyH_takeD (i := 5) (d := some 15) (v := .agg ([.int .i64 M.ki, .int .i64 id, .int .i64 M.tt, .int .i64 M.di, .int .i64 M.b.au, .int .i64 M.b.n, .slice bA bn bc, .int .i64 M.h.au, .int .i64 M.h.ro, .slice xA xn xc, .slice yA yn yc, .int .i64 M.c.h.au, .int .i64 M.c.h.ro, .slice cA cn cc, .slice dA dn dc, .int .i64 M.c.di, .slice sA sn sc, .slice eA en ec]).toArray) rfl rfl (by kernel_rfl) (by kernel_rfl) (by kernel_rfl) (fun _ _ _ h => h) (yieldsIf_load_mid (by rfl) 49 _ rfl N 0 (by simp [Act.eval, Act.put]) ([.int .i64 M.ki, .int .i64 id, .int .i64 M.tt, .int .i64 M.di, .int .i64 M.b.au, .int .i64 M.b.n, .slice bA bn bc, .int .i64 M.h.au, .int .i64 M.h.ro, .slice xA xn xc, .slice yA yn yc, .int .i64 M.c.h.au, .int .i64 M.c.h.ro, .slice cA cn cc, .slice dA dn dc, .int .i64 M.c.di, .slice sA sn sc, .slice eA en ec]) _ (hS1) Tryz.underlying49 (by rfl) (by kernel_rfl)) (by assumption) ?_
  simp only [Act.put, lzT, lzZ, lzS]
  refine wpAnyH_ready (rs := [4, 6]) (by kernel_rfl) (by simp) ?_
  refine AllReadyH.cons (o := _) rfl (fun K hK => ?_) (AllReadyH.cons (o := _) rfl (fun K hK => ?_) AllReadyH.nil)
  · skip
    obtain ⟨q9, qg⟩ := hc9 _ (hbd)
    go_simp
    refine hK.out _ _ (hS2 _ (hbd)) (fun hHeld => ?_)
    clear hK K q9 qg
    (try simp only [Act.put, lzT, lzZ, lzS])
    refine wpAnyH_ready (rs := [6]) (by kernel_rfl) (by simp) ?_
    refine AllReadyH.cons (o := _) rfl (fun K hK => ?_) AllReadyH.nil
    go_simp
    refine hK.out _ _ (hS2 _ (bel_alloc hbd)) (fun hHeld => ?_)
    clear hK K
    (try simp only [Act.put, lzT, lzZ, lzS])
    have HBX := Lib.hid (BoxR.new Z [.int .i64 M.ki, .int .i64 id, .int .i64 M.tt, .int .i64 M.di, .int .i64 M.b.au, .int .i64 M.b.n, .slice bA bn bc, .int .i64 M.h.au, .int .i64 M.h.ro, .slice xA xn xc, .slice yA yn yc, .int .i64 M.c.h.au, .int .i64 M.c.h.ro, .slice cA cn cc, .slice dA dn dc, .int .i64 M.c.di, .slice sA sn sc, .slice eA en ec] 49)
    have hbZ : Below Y.heap.size Y (Z.alloc (.cells #[.int .i64 M.ki, .int .i64 id, .int .i64 M.tt, .int .i64 M.di, .int .i64 M.b.au, .int .i64 M.b.n, .slice bA bn bc, .int .i64 M.h.au, .int .i64 M.h.ro, .slice xA xn xc, .slice yA yn yc, .int .i64 M.c.h.au, .int .i64 M.c.h.ro, .slice cA cn cc, .slice dA dn dc, .int .i64 M.c.di, .slice sA sn sc, .slice eA en ec] 49)) := bel_alloc hbd
    refine wpAnyH_ready (rs := [7]) (by kernel_rfl) (by simp) ?_
    refine AllReadyH.cons (o := _) rfl (fun K hK => ?_) AllReadyH.nil
    refine step_appM rfl (.tmp 14) (.tmp 16) rfl rfl B (.slice uA un uc) ps l (by simp [Act.eval, Act.put]) (HOY.out.up hbZ) Z.heap.size (sayM M id M.tt) ⟨⟨bA, bn, bc⟩, ⟨⟨xA, xn, xc⟩, ⟨yA, yn, yc⟩⟩, ⟨⟨⟨cA, cn, cc⟩, ⟨dA, dn, dc⟩⟩, ⟨sA, sn, sc⟩⟩, ⟨eA, en, ec⟩⟩ (by simp [Act.eval, Act.put]) HBX.out ((HMY.out.up hbZ).say) hl (Nat.le_trans HSZ.out hbZ.size) ?_
    intro v5 w5 hown5 hg5 hb5
    refine hK.out _ _ (hS3 _ _ hbZ hg5) (fun hHeld => ?_)
    clear hK K
    (try simp only [Act.put, lzT, lzZ, lzS])
    obtain ⟨A5, c5, e5, _⟩ := hown5.read
    obtain ⟨n5, hn5⟩ : ∃ x, (l ++ [sayM M id M.tt]).length = x := ⟨_, rfl⟩
    rw [hn5] at e5
    clear hn5
    subst e5
    have hk5 : KeepM Y w5 := (KeepM.of_below hbZ).trans (KeepM.of_grown (HOY.out.up hbZ).1 hg5)
    have hG5 := hk5 _ _ _ (by decide) HGY.out
    have hs5 := hS3 _ _ hbZ hg5
    (refine wpAnyH_tk 8 (some 18) (v := ?_) rfl rfl ?_ ?_; rotate_left; (focus (intro wq hSw; (try dsimp only at hSw); go_simp; all_goals (with_reducible rfl))); simp only [Act.put, lzT, lzZ, lzS])
    (refine wpAnyH_tk 9 (some 19) (v := ?_) rfl rfl ?_ ?_; rotate_left; (focus (intro wq hSw; (try dsimp only at hSw); go_simp; all_goals (with_reducible rfl))); simp only [Act.put, lzT, lzZ, lzS])
    refine wpAnyH_ready (rs := [10]) (by kernel_rfl) (by simp) ?_
    refine AllReadyH.cons (o := _) rfl (fun K hK => ?_) AllReadyH.nil
    have hf5 := hG5.frozen
    have hl5 := hG5.lt
    have q9 := hG5.box.2 9 _ rfl
    go_simp
    refine hK.out _ _ (hS4 _ _ _ hs5) (fun hHeld => ?_)
    clear hK K
    (try simp only [Act.put, lzT, lzZ, lzS])
    refine wpAnyH_done (by kernel_rfl) ?_ _
    go_end0
    exact ⟨w5, A5, n5, c5, rfl, rfl, Below.trans (hbX.mono hB) (Below.trans (hbZ.mono HSZ.out) hb5), (KeepM.of_below hbX).trans hk5, hown5⟩
  · skip
    go_simp
    refine hK.out _ _ (hS2 _ (bel_alloc hbd)) (fun hHeld => ?_)
    clear hK K
    (try simp only [Act.put, lzT, lzZ, lzS])
    refine wpAnyH_ready (rs := [4]) (by kernel_rfl) (by simp) ?_
    refine AllReadyH.cons (o := _) rfl (fun K hK => ?_) AllReadyH.nil
    obtain ⟨q9, qg⟩ := hc9 (Z.alloc (.cells #[.int .i64 M.ki, .int .i64 id, .int .i64 M.tt, .int .i64 M.di, .int .i64 M.b.au, .int .i64 M.b.n, .slice bA bn bc, .int .i64 M.h.au, .int .i64 M.h.ro, .slice xA xn xc, .slice yA yn yc, .int .i64 M.c.h.au, .int .i64 M.c.h.ro, .slice cA cn cc, .slice dA dn dc, .int .i64 M.c.di, .slice sA sn sc, .slice eA en ec] 49)) (bel_alloc hbd)
    go_simp
    refine hK.out _ _ (hS2 (Z.alloc (.cells #[.int .i64 M.ki, .int .i64 id, .int .i64 M.tt, .int .i64 M.di, .int .i64 M.b.au, .int .i64 M.b.n, .slice bA bn bc, .int .i64 M.h.au, .int .i64 M.h.ro, .slice xA xn xc, .slice yA yn yc, .int .i64 M.c.h.au, .int .i64 M.c.h.ro, .slice cA cn cc, .slice dA dn dc, .int .i64 M.c.di, .slice sA sn sc, .slice eA en ec] 49)) (bel_alloc hbd)) (fun hHeld => ?_)
    clear hK K q9 qg
    (try simp only [Act.put, lzT, lzZ, lzS])
    have HBX := Lib.hid (BoxR.new Z [.int .i64 M.ki, .int .i64 id, .int .i64 M.tt, .int .i64 M.di, .int .i64 M.b.au, .int .i64 M.b.n, .slice bA bn bc, .int .i64 M.h.au, .int .i64 M.h.ro, .slice xA xn xc, .slice yA yn yc, .int .i64 M.c.h.au, .int .i64 M.c.h.ro, .slice cA cn cc, .slice dA dn dc, .int .i64 M.c.di, .slice sA sn sc, .slice eA en ec] 49)
    have hbZ : Below Y.heap.size Y (Z.alloc (.cells #[.int .i64 M.ki, .int .i64 id, .int .i64 M.tt, .int .i64 M.di, .int .i64 M.b.au, .int .i64 M.b.n, .slice bA bn bc, .int .i64 M.h.au, .int .i64 M.h.ro, .slice xA xn xc, .slice yA yn yc, .int .i64 M.c.h.au, .int .i64 M.c.h.ro, .slice cA cn cc, .slice dA dn dc, .int .i64 M.c.di, .slice sA sn sc, .slice eA en ec] 49)) := bel_alloc hbd
    refine wpAnyH_ready (rs := [7]) (by kernel_rfl) (by simp) ?_
    refine AllReadyH.cons (o := _) rfl (fun K hK => ?_) AllReadyH.nil
    refine step_appM rfl (.tmp 14) (.tmp 16) rfl rfl B (.slice uA un uc) ps l (by simp [Act.eval, Act.put]) (HOY.out.up hbZ) Z.heap.size (sayM M id M.tt) ⟨⟨bA, bn, bc⟩, ⟨⟨xA, xn, xc⟩, ⟨yA, yn, yc⟩⟩, ⟨⟨⟨cA, cn, cc⟩, ⟨dA, dn, dc⟩⟩, ⟨sA, sn, sc⟩⟩, ⟨eA, en, ec⟩⟩ (by simp [Act.eval, Act.put]) HBX.out ((HMY.out.up hbZ).say) hl (Nat.le_trans HSZ.out hbZ.size) ?_
    intro v5 w5 hown5 hg5 hb5
    refine hK.out _ _ (hS3 _ _ hbZ hg5) (fun hHeld => ?_)
    clear hK K
    (try simp only [Act.put, lzT, lzZ, lzS])
    obtain ⟨A5, c5, e5, _⟩ := hown5.read
    obtain ⟨n5, hn5⟩ : ∃ x, (l ++ [sayM M id M.tt]).length = x := ⟨_, rfl⟩
    rw [hn5] at e5
    clear hn5
    subst e5
    have hk5 : KeepM Y w5 := (KeepM.of_below hbZ).trans (KeepM.of_grown (HOY.out.up hbZ).1 hg5)
    have hG5 := hk5 _ _ _ (by decide) HGY.out
    have hs5 := hS3 _ _ hbZ hg5
    (refine wpAnyH_tk 8 (some 18) (v := ?_) rfl rfl ?_ ?_; rotate_left; (focus (intro wq hSw; (try dsimp only at hSw); go_simp; all_goals (with_reducible rfl))); simp only [Act.put, lzT, lzZ, lzS])
    (refine wpAnyH_tk 9 (some 19) (v := ?_) rfl rfl ?_ ?_; rotate_left; (focus (intro wq hSw; (try dsimp only at hSw); go_simp; all_goals (with_reducible rfl))); simp only [Act.put, lzT, lzZ, lzS])
    refine wpAnyH_ready (rs := [10]) (by kernel_rfl) (by simp) ?_
    refine AllReadyH.cons (o := _) rfl (fun K hK => ?_) AllReadyH.nil
    have hf5 := hG5.frozen
    have hl5 := hG5.lt
    have q9 := hG5.box.2 9 _ rfl
    go_simp
    refine hK.out _ _ (hS4 _ _ _ hs5) (fun hHeld => ?_)
    clear hK K
    (try simp only [Act.put, lzT, lzZ, lzS])
    refine wpAnyH_done (by kernel_rfl) ?_ _
    go_end0
    exact ⟨w5, A5, n5, c5, rfl, rfl, Below.trans (hbX.mono hB) (Below.trans (hbZ.mono HSZ.out) hb5), (KeepM.of_below hbX).trans hk5, hown5⟩
noncomputable def findI (l : List HeldD) (d : Int) : Int := if khasH l d = true then (kposH l d : Int) else -1
theorem kposH_eq {l : List HeldD} (hs : SortedH l) {key : Int} {j : Nat} (hj : j < l.length) (e : (hth l j).di = key) : kposH l key = j :=
  cnt_eq _ l j (by omega) (fun t ht => by have := hs t j ht hj; rw [e] at this; exact this) (fun _ => by show ltI (hth l j).di key = false; rw [e]; simp [ltI])
set_option maxRecDepth 100000 in
set_option maxHeartbeats 4000000 in
theorem ref13_find (g : Nat) (c0 c1 c2 c3 c4 c5 c6 c8 c9 : Value) (eA : Option Addr) (en ec : Nat) (l : List HeldD) (d : Int) (w : World) (hg : Blk w g 70 [c0, c1, c2, c3, c4, c5, c6, .slice eA en ec, c8, c9]) (hl : HeldsR w eA en l) (hs : SortedH l) :
    Calls Tryz.prog 83 #[.pointer (some ⟨g, 0, none⟩), .int .i64 d] w fun e w' => e = .returned (.int .i64 (findI l d)) ∧ w = w' := by
  have HS := Lib.hid hs
  have HN : Hid (l.length = en) := Lib.hid hl.1
  have hnn : en ≤ 9223372036854775807 := hl.2.1
  have HL := Lib.hid hl
  have b7 := hg.box.2 7 _ rfl
  have lg := hg.lt
  clear hg hl hs
  go_enter Tryz.func83, Tryz.ntmps83
  go_wp2_with fail
  go_loop [5] (fun iv => ∃ k : Nat, k ≤ en ∧ iv = .int .i64 k ∧ Hid (∀ j, j < k → (hth l j).di ≠ d)) (fun iv => en - (intOf iv).toNat)
  case atStart => exact ⟨0, Nat.zero_le _, rfl, Lib.hid (fun j hj => absurd hj (by omega))⟩
  case round =>
    obtain ⟨k, hk, rfl, HQ⟩ := hrel
    by_cases hlt : k < en
    · obtain ⟨b, off, rfl, hb, hc⟩ := HL.out.2.2 (by omega)
      obtain ⟨Bq, mq, dq, ⟨f0, f1, f2, f3⟩, -⟩ := hc k hlt
      clear hc
      by_cases hq : (hth l k).di = d
      · have HE : Hid (findI l d = k) := Lib.hid (by
          have h1 : khasH l d = true := (khasH_iff HS.out).2 ⟨k, by rw [HN.out]; exact hlt, hq⟩
          unfold findI; rw [if_pos h1, kposH_eq HS.out (by rw [HN.out]; exact hlt) hq])
        have hd : ((hth l k).di == d) = true := by simpa using hq
        clear hq
        go_wp2_with fail
        go_ret
        exact ⟨by (rw [HE.out]; rfl), rfl⟩
      · have hd : ((hth l k).di == d) = false := by simpa using hq
        have HE := Lib.hid hq
        clear hq
        go_wp2_with fail
        (first | (go_round; (case rel => exact ⟨k + 1, by omega, by go_num, Lib.hid (fun j hj => by (rcases Nat.lt_or_ge j k with h | h; exact HQ.out j h; (obtain rfl : j = k := by omega); exact HE.out))⟩); (case measure => (simp [intOf] <;> omega))) | (go_roundw; (case rel => exact ⟨k + 1, by omega, by go_num, Lib.hid (fun j hj => by (rcases Nat.lt_or_ge j k with h | h; exact HQ.out j h; (obtain rfl : j = k := by omega); exact HE.out))⟩); (case measure => (simp [intOf] <;> omega))) | (refine ⟨?_, by simp [intOf] <;> omega⟩; (repeat apply Exists.intro); refine ⟨?rel, ?fr⟩; (case fr => ((repeat' apply And.intro) <;> rfl)); (case rel => exact ⟨k + 1, by omega, by go_num, Lib.hid (fun j hj => by (rcases Nat.lt_or_ge j k with h | h; exact HQ.out j h; (obtain rfl : j = k := by omega); exact HE.out))⟩)))
    · obtain rfl : k = en := by omega
      have HE : Hid (findI l d = -1) := Lib.hid (by
        unfold findI
        rw [if_neg]
        intro h
        obtain ⟨j, hj, e⟩ := (khasH_iff HS.out).1 h
        exact HQ.out j (by rw [← HN.out]; exact hj) e)
      go_wp2_with fail
      go_ret
      exact ⟨by (rw [HE.out]; rfl), rfl⟩
end Go.Proofs.YtgfakefcmbpboaaGreat
namespace Go.Proofs.YtgfakefcmbpboaaGreat
open Go.RowKit
set_option linter.unusedSimpArgs false
set_option linter.unusedVariables false

theorem run_appRow_Held (w : World) (B : Nat) (v : Value) (n : Nat) (xs : List Value) (hown : w.ownsRow B 101 4 v n xs) (A : Option Addr) (m c : Nat) (e : List Value) (he : RowV w A m 4 e) (h1e : ∀ u ∈ e, u.oneCell' = true) (hn : n + m ≤ 900000000) (hB : B ≤ w.heap.size) :
    ∃ v' w', (Builtin.append_ #[24, 24] 24 #[v, .slice A m c]).run Tryz.prog w = .ok v' w' ∧ w'.ownsRow B 101 4 v' (n + m) (xs ++ e) ∧ w.grownBy w' v.ownBlock ∧ Below B w w' := by
  rcases Nat.eq_zero_or_pos m with h0 | h0
  · subst h0
    have e0 : e = [] := List.length_eq_zero_iff.1 (by rw [he.1, Nat.zero_mul])
    subst e0
    obtain ⟨i0, hi, hz, hz1, hz2⟩ := info_parts info_Held
    refine ⟨v, w, ?_, by simpa using hown, World.grownBy.refl _ _, Below.refl _ _⟩
    rcases hown.2 with ⟨rfl, _⟩ | ⟨g, cap, cur, rfl, _, _, hnc, _⟩
    · cases A <;> simp [Builtin.append_, run_underlying Tryz.underlying24, sizeOf, typeInfo, hi, Builtin.lenOf, Builtin.firstCells, loadCells, loadCellsFrom, storeCells]
    · cases A <;> simp [Builtin.append_, run_underlying Tryz.underlying24, sizeOf, typeInfo, hi, Builtin.lenOf, Builtin.firstCells, loadCells, loadCellsFrom, hnc, storeCells]
  · obtain ⟨b, off, rfl, hb, hc⟩ := he.2.2 h0
    obtain ⟨v', w', hrun, h2, h3, h4, h5⟩ := run_app_Held w B v n xs hown b off m c e he.1 hc h1e (by omega) hB
    exact ⟨v', w', hrun, h2, h3, h4⟩
theorem wpList_appRow_Held {w : World} {ops : Array Oper} {rest : List Oper} {o : Oper} {a : Act} {Q : Exit → Act → World → Prop} (hgd : o.guard = none) (s x : Operand)
    (ho : o.op = .call { callee := .builtin .append, args := #[s, x], argTypes := #[24, 24] }) (hty : o.type = 24) (B : Nat) (v : Value) (n : Nat) (xs : List Value) (hs : a.eval s = v) (hown : w.ownsRow B 101 4 v n xs) (A : Option Addr) (m c : Nat) (e : List Value) (hx : a.eval x = .slice A m c)
    (he : RowV w A m 4 e) (h1e : ∀ u ∈ e, u.oneCell' = true) (hn : n + m ≤ 900000000) (hB : B ≤ w.heap.size)
    (h : ∀ v' w', w'.ownsRow B 101 4 v' (n + m) (xs ++ e) → w.grownBy w' v.ownBlock → Below B w w' → wpList Tryz.prog ops Q rest (a.put o.dst v') w') : wpList Tryz.prog ops Q (o :: rest) a w := by
  obtain ⟨v', w', hrun, h2, h3, h4⟩ := run_appRow_Held w B v n xs hown A m c e he h1e hn hB
  exact Lib.wpList_append_run w hgd s x _ _ ho _ _ hs hx _ _ (by rw [hty]; exact hrun) (h v' w' h2 h3 h4)
theorem step_appRow_Held {ops : Array Oper} {o : Oper} {a : Act} {w : World} {K : Act → World → Prop} {Q : Exit → Act → World → Prop} {E : Prop} (hgd : o.guard = none) (s x : Operand)
    (ho : o.op = .call { callee := .builtin .append, args := #[s, x], argTypes := #[24, 24] }) (hty : o.type = 24) (B : Nat) (v : Value) (n : Nat) (xs : List Value) (hs : a.eval s = v) (hown : w.ownsRow B 101 4 v n xs) (A : Option Addr) (m c : Nat) (e : List Value) (hx : a.eval x = .slice A m c)
    (he : RowV w A m 4 e) (h1e : ∀ u ∈ e, u.oneCell' = true) (hn : n + m ≤ 900000000) (hB : B ≤ w.heap.size)
    (h : ∀ v' w', w'.ownsRow B 101 4 v' (n + m) (xs ++ e) → w.grownBy w' v.ownBlock → Below B w w' → K (a.put o.dst v') w') : if Region.wanted o (yielded ops a.tmps) = true then Oper.wp Tryz.prog o a w K Q else E := by
  obtain ⟨v', w', hrun, h2, h3, h4⟩ := run_appRow_Held w B v n xs hown A m c e he h1e hn hB
  exact step_app_runR hgd s x _ _ ho _ _ hs hx (by rw [hty]; exact hrun) (h v' w' h2 h3 h4)
theorem cnt_lt {α : Type} [Inhabited α] (p : α → Bool) (l : List α) {t : Nat} (h : t < cnt p l) : p (l.getD t default) = true := by
  have hl := cnt_le p l
  refine cnt_take p l _ ?_
  rw [List.mem_take_iff_getElem]
  exact ⟨t, by omega, by simp [show t < l.length by omega]⟩
theorem HeldsR.takeN {w : World} {A : Option Addr} {n k : Nat} {l : List HeldD} (h : HeldsR w A n l) (hk : k ≤ n) : HeldsR w A k (l.take k) := by
  obtain ⟨h1, h2, h3⟩ := h
  refine ⟨by rw [List.length_take]; omega, by omega, fun h0 => ?_⟩
  obtain ⟨b, off, e, hb, hc⟩ := h3 (by omega)
  refine ⟨b, off, e, hb, fun j hj => ?_⟩
  have e2 : hth (l.take k) j = hth l j := by simp [hth, hj]
  rw [e2]; exact hc j (by omega)
theorem RowV.dropK {w : World} {b n k i : Nat} {xs : List Value} (h : RowV w (some ⟨b, 0, none⟩) n k xs) (hi : i ≤ n) : RowV w (some ⟨b, i * k, none⟩) (n - i) k (xs.drop (i * k)) := by
  obtain ⟨h1, h2, h3⟩ := h
  refine ⟨by rw [List.length_drop, h1, Nat.sub_mul], by omega, fun h0 => ?_⟩
  obtain ⟨b', off, e, hb, hc⟩ := h3 (by omega)
  injection e with e
  injection e with e1 e2 e3
  subst e1; subst e2
  exact ⟨b, i * k, rfl, hb, fun j u hu => by (have := hc (i * k + j) u (by rw [List.getElem?_drop] at hu; exact hu)); rw [Nat.zero_add] at this; exact this⟩
theorem RowV.nilA {w : World} (A : Option Addr) (k : Nat) : RowV w A 0 k [] := ⟨by simp, by omega, fun h => absurd h (by omega)⟩
theorem dcells_oneK {α β : Type} [Inhabited α] [Inhabited β] (T : DeepT α β) {w : World} {B : Nat} {l : List α} {ps : List β} (hps : ps.length = l.length) (h : ∀ j, j < l.length → T.inner w B (ps.getD j default) (l.getD j default)) : ∀ u ∈ dcells T l ps, u.oneCell' = true := by
  intro u hu
  obtain ⟨i, hi, rfl⟩ := List.getElem_of_mem hu
  rw [dcells_len T hps] at hi
  have hk := T.k0
  have hj : i / T.k < l.length := Nat.div_lt_of_lt_mul (by rw [Nat.mul_comm]; exact hi)
  have e := dcells_at T hps hj (r := i % T.k) (Nat.mod_lt _ hk)
  rw [Nat.div_add_mod'] at e
  have e2 : (dcells T l ps)[i]? = some ((dcells T l ps)[i]'(by rw [dcells_len T hps]; exact hi)) := List.getElem?_eq_getElem _
  rw [e2] at e
  exact T.one (h _ hj) _ (List.mem_of_getElem? e.symm)
theorem ownT_ins {α β : Type} [Inhabited α] [Inhabited β] (T : DeepT α β) {w : World} {B lo : Nat} {v : Value} {qs ps : List β} {p : β} {l : List α} {x : α} (hq : qs.length = lo) (hlo : lo ≤ l.length) (hps : ps.length = l.length) (hrow : w.ownsRow B T.t T.k v (lo + 1 + (l.length - lo)) ((dcells T (l.take lo) qs ++ T.enc x p) ++ (dcells T l ps).drop (lo * T.k)))
    (h1 : ∀ j, j < lo → T.inner w B (qs.getD j default) (l.getD j default)) (h2 : T.inner w B p x) (h3 : ∀ j, lo ≤ j → j < l.length → T.inner w B (ps.getD j default) (l.getD j default)) : OwnT T w B v (qs ++ p :: ps.drop lo) (insAt l lo x) := by
  have ht : (l.take lo).length = lo := by rw [List.length_take]; omega
  have e1 : dcells T (insAt l lo x) (qs ++ p :: ps.drop lo) = (dcells T (l.take lo) qs ++ T.enc x p) ++ (dcells T l ps).drop (lo * T.k) := by
    unfold insAt
    rw [dcells_app T (by rw [ht]; exact hq), ← (dcells_take T hps hlo).2, show x :: l.drop lo = [x] ++ l.drop lo from rfl, show p :: ps.drop lo = [p] ++ ps.drop lo from rfl, dcells_app T (by rfl), List.append_assoc]
    simp [dcells]
  refine ⟨by rw [e1, insAt_len hlo]; (have e2 : l.length + 1 = lo + 1 + (l.length - lo) := by omega); rw [e2]; exact hrow, ?_, fun j hj => ?_⟩
  · rw [insAt_len hlo, List.length_append, List.length_cons, List.length_drop, hq, hps]; omega
  · rw [insAt_len hlo] at hj
    unfold insAt
    rcases Nat.lt_trichotomy j lo with h | h | h
    · have a1 : (qs ++ p :: ps.drop lo).getD j default = qs.getD j default := by simp [List.getElem?_append, hq, h]
      have a2 : (l.take lo ++ x :: l.drop lo).getD j default = l.getD j default := by simp [List.getElem?_append, h, show j < l.length by omega, show j < min lo l.length by omega]
      rw [a1, a2]; exact h1 j h
    · subst h
      have a1 : (qs ++ p :: ps.drop j).getD j default = p := by
        simp only [List.getD_eq_getElem?_getD]
        rw [List.getElem?_append_right (by omega), hq, Nat.sub_self]; rfl
      have a2 : (l.take j ++ x :: l.drop j).getD j default = x := by
        simp only [List.getD_eq_getElem?_getD]
        rw [List.getElem?_append_right (by omega), ht, Nat.sub_self]; rfl
      rw [a1, a2]; exact h2
    · obtain ⟨i, rfl⟩ : ∃ i, j = lo + 1 + i := ⟨j - lo - 1, by omega⟩
      have a1 : (qs ++ p :: ps.drop lo).getD (lo + 1 + i) default = ps.getD (lo + i) default := by
        simp only [List.getD_eq_getElem?_getD]
        rw [List.getElem?_append_right (by omega), hq, show lo + 1 + i - lo = i + 1 by omega, List.getElem?_cons_succ, List.getElem?_drop]
      have a2 : (l.take lo ++ x :: l.drop lo).getD (lo + 1 + i) default = l.getD (lo + i) default := by
        simp only [List.getD_eq_getElem?_getD]
        rw [List.getElem?_append_right (by rw [ht]; omega), ht, show lo + 1 + i - lo = i + 1 by omega, List.getElem?_cons_succ, List.getElem?_drop]
      rw [a1, a2]; exact h3 (lo + i) (by omega) (by omega)
end Go.Proofs.YtgfakefcmbpboaaGreat
