/- A message is sent; some nodes are asked: at the program: step.say, step.ask. -/
import Derived.Test.YtgfakefcmbpboaaSxWx2
import Derived.Test.YtgfakefcmbpboaaSxWt
namespace Go.Proofs.Ytgfakefcmbpboaa
open Go.RowKit
set_option linter.unusedSimpArgs false
set_option linter.unusedVariables false

def sayM (M : MsgD) (id too : Int) : MsgD := { M with fr := id, tt := too }
theorem OwnM.say {w : World} {B : Nat} {P M} {id too : Int} (h : OwnM w B P M) : OwnM w B P (sayM M id too) := ⟨h.b, h.h1, h.h2, h.c1, h.c2, h.c3, h.ds⟩
/-- Blocks of other types than messages are kept. -/
def KeepM (w w' : World) : Prop := ∀ g t cs, t ≠ 54 → Blk w g t cs → Blk w' g t cs
theorem KeepM.trans {a b c : World} (h : KeepM a b) (k : KeepM b c) : KeepM a c := fun g t cs ht hb => k g t cs ht (h g t cs ht hb)
theorem KeepM.of_below {w w' : World} (h : Below w.heap.size w w') : KeepM w w' := fun g t cs _ hb => hb.up h
theorem KeepM.of_grown {w w' : World} {B n : Nat} {v : Value} {xs : List Value} (hv : w.ownsRow B 54 18 v n xs) (hg : w.grownBy w' v.ownBlock) : KeepM w w' := fun g t cs ht hb => hb.of_heap (hg.block g hb.lt (fun e => by
  obtain ⟨_, c2, e2⟩ := own_typeB hv g e.symm
  have hb' : w.heap[g]? = some (.cells cs.toArray t (0, 0)) := hb
  rw [hb'] at e2
  injection e2 with e2
  injection e2 with _ e3 _
  exact ht e3))
set_option maxRecDepth 100000 in
set_option maxHeartbeats 8000000 in
theorem step_say (g B : Nat) (id too : Int) (k1 k2 k3 k4 k5 k6 k7 k8 : Value) (uA : Option Addr) (un uc : Nat) (ps : List MsgP) (l : List MsgD) (P : MsgP) (M : MsgD) (w : World) (hg : Blk w g 97 [.int .i64 id, k1, k2, k3, k4, k5, k6, k7, k8, .slice uA un uc]) (hgB : g < B) (hB : B ≤ w.heap.size) (ho : OwnT dMsg w B (.slice uA un uc) ps l) (hl : l.length ≤ 800000000) (hm : OwnM w B P M) :
    Calls Try.prog 59 #[.pointer (some ⟨g, 0, none⟩), .int .i64 too, M18 P M] w fun e w' => ∃ X A n c, e = .returned (.tuple #[]) ∧ w' = X.setCell ⟨g, 9, none⟩ (.slice A n c) ∧ Below B w X ∧ KeepM w X ∧ OwnT dMsg X B (.slice A n c) (ps ++ [P]) (l ++ [sayM M id too]) := by
  obtain ⟨⟨bA, bn, bc⟩, ⟨⟨xA, xn, xc⟩, ⟨yA, yn, yc⟩⟩, ⟨⟨⟨cA, cn, cc⟩, ⟨dA, dn, dc⟩⟩, ⟨sA, sn, sc⟩⟩, ⟨eA, en, ec⟩⟩ := P
  have HG := Lib.hid hg
  have HO := Lib.hid ho
  have HM := Lib.hid hm
  have hfg := hg.frozen
  have hgl := hg.lt
  have a_0 := (hg.box).2 0 _ rfl; have a_1 := (hg.box).2 1 _ rfl; have a_2 := (hg.box).2 2 _ rfl; have a_3 := (hg.box).2 3 _ rfl; have a_4 := (hg.box).2 4 _ rfl; have a_5 := (hg.box).2 5 _ rfl; have a_6 := (hg.box).2 6 _ rfl; have a_7 := (hg.box).2 7 _ rfl; have a_8 := (hg.box).2 8 _ rfl; have a_9 := (hg.box).2 9 _ rfl
  clear hg ho hm
  show Calls Try.prog 59 #[.pointer (some ⟨g, 0, none⟩), .int .i64 too, .agg #[.int .i64 M.ki, .int .i64 M.fr, .int .i64 M.tt, .int .i64 M.di, .int .i64 M.b.au, .int .i64 M.b.n, .slice bA bn bc, .int .i64 M.h.au, .int .i64 M.h.ro, .slice xA xn xc, .slice yA yn yc, .int .i64 M.c.h.au, .int .i64 M.c.h.ro, .slice cA cn cc, .slice dA dn dc, .int .i64 M.c.di, .slice sA sn sc, .slice eA en ec]] w _
  go_enter Try.func59, Try.ntmps59
  go_upto_region 2 with fail
  have hX : Blk (w.alloc (.cells #[.int .i64 M.ki, .int .i64 id, .int .i64 too, .int .i64 M.di, .int .i64 M.b.au, .int .i64 M.b.n, .slice bA bn bc, .int .i64 M.h.au, .int .i64 M.h.ro, .slice xA xn xc, .slice yA yn yc, .int .i64 M.c.h.au, .int .i64 M.c.h.ro, .slice cA cn cc, .slice dA dn dc, .int .i64 M.c.di, .slice sA sn sc, .slice eA en ec] 54)) w.heap.size 54 [.int .i64 M.ki, .int .i64 id, .int .i64 too, .int .i64 M.di, .int .i64 M.b.au, .int .i64 M.b.n, .slice bA bn bc, .int .i64 M.h.au, .int .i64 M.h.ro, .slice xA xn xc, .slice yA yn yc, .int .i64 M.c.h.au, .int .i64 M.c.h.ro, .slice cA cn cc, .slice dA dn dc, .int .i64 M.c.di, .slice sA sn sc, .slice eA en ec] := Blk.new w 54 [.int .i64 M.ki, .int .i64 id, .int .i64 too, .int .i64 M.di, .int .i64 M.b.au, .int .i64 M.b.n, .slice bA bn bc, .int .i64 M.h.au, .int .i64 M.h.ro, .slice xA xn xc, .slice yA yn yc, .int .i64 M.c.h.au, .int .i64 M.c.h.ro, .slice cA cn cc, .slice dA dn dc, .int .i64 M.c.di, .slice sA sn sc, .slice eA en ec]
  have hbX : Below w.heap.size w (w.alloc (.cells #[.int .i64 M.ki, .int .i64 id, .int .i64 too, .int .i64 M.di, .int .i64 M.b.au, .int .i64 M.b.n, .slice bA bn bc, .int .i64 M.h.au, .int .i64 M.h.ro, .slice xA xn xc, .slice yA yn yc, .int .i64 M.c.h.au, .int .i64 M.c.h.ro, .slice cA cn cc, .slice dA dn dc, .int .i64 M.c.di, .slice sA sn sc, .slice eA en ec] 54)) := belB
  generalize hYe : (w.alloc (.cells #[.int .i64 M.ki, .int .i64 id, .int .i64 too, .int .i64 M.di, .int .i64 M.b.au, .int .i64 M.b.n, .slice bA bn bc, .int .i64 M.h.au, .int .i64 M.h.ro, .slice xA xn xc, .slice yA yn yc, .int .i64 M.c.h.au, .int .i64 M.c.h.ro, .slice cA cn cc, .slice dA dn dc, .int .i64 M.c.di, .slice sA sn sc, .slice eA en ec] 54)) = Y at *
  clear hYe
  have hG := HG.out.up hbX
  have hfY := hG.frozen
  have hgY := hG.lt
  have hxY := hX.lt
  obtain ⟨N, hN⟩ : ∃ N, N = w.heap.size := ⟨_, rfl⟩
  rw [← hN] at hX hxY ⊢
  have hgN : g < N := by omega
  have hoN : ∀ q, (Value.slice uA un uc).ownBlock = some q → q < N := fun q hq => by rw [hN]; exact (own_lt HO.out.1 q hq).2
  clear a_0 a_1 a_2 a_3 a_4 a_5 a_6 a_7 a_8 a_9 hfg
  have HGY := Lib.hid hG
  have HXY := Lib.hid hX
  have HOY := Lib.hid (HO.out.up hbX)
  have HMY := Lib.hid (HM.out.up hbX)
  have HSZ : Hid (B ≤ Y.heap.size) := Lib.hid (Nat.le_trans hB hbX.size)
  obtain ⟨S, hS⟩ : ∃ S : World → Prop, S = fun Z => Blk Z N 54 [.int .i64 M.ki, .int .i64 id, .int .i64 too, .int .i64 M.di, .int .i64 M.b.au, .int .i64 M.b.n, .slice bA bn bc, .int .i64 M.h.au, .int .i64 M.h.ro, .slice xA xn xc, .slice yA yn yc, .int .i64 M.c.h.au, .int .i64 M.c.h.ro, .slice cA cn cc, .slice dA dn dc, .int .i64 M.c.di, .slice sA sn sc, .slice eA en ec] := ⟨_, rfl⟩
  have hS0 : S Y.drew := by rw [hS]; exact hX.up (bel_drew (Below.refl _ _))
  have hS1 : ∀ Z, S Z → Z.rangeAt N 0 [.int .i64 M.ki, .int .i64 id, .int .i64 too, .int .i64 M.di, .int .i64 M.b.au, .int .i64 M.b.n, .slice bA bn bc, .int .i64 M.h.au, .int .i64 M.h.ro, .slice xA xn xc, .slice yA yn yc, .int .i64 M.c.h.au, .int .i64 M.c.h.ro, .slice cA cn cc, .slice dA dn dc, .int .i64 M.c.di, .slice sA sn sc, .slice eA en ec] := fun Z h => by rw [hS] at h; exact fun j u hu => by rw [Nat.zero_add]; exact h.box.2 j u hu
  have hS2 : ∀ Z, Below Y.heap.size Y Z → S Z := fun Z hZ => by rw [hS]; exact HXY.out.up hZ
  have hS3 : ∀ Z Z', Below Y.heap.size Y Z → Z.grownBy Z' (Value.slice uA un uc).ownBlock → S Z' := fun Z Z' hZ hg' => by rw [hS]; exact (HXY.out.up hZ).grown2 hg' (fun e => by have := hoN _ e; omega)
  have hS4 : ∀ Z o u, S Z → S (Z.setCell ⟨g, o, none⟩ u) := fun Z o u hZ => by rw [hS] at hZ ⊢; exact hZ.far (p := ⟨g, o, none⟩) (by show N ≠ g; omega) u
  have hc9 : ∀ Z, Below Y.heap.size Y Z → Z.cell? ⟨g, 9, none⟩ = some (.slice uA un uc) ∧ g < Z.heap.size := fun Z hZ => ⟨(HGY.out.up hZ).box.2 9 _ rfl, (HGY.out.up hZ).lt⟩
  clear hG hX hS
  refine wp_region_held_drew (S := S) (by kernel_rfl) hS0 (fun hHeld => ?_)
  have hbd : Below Y.heap.size Y Y.drew := bel_drew (Below.refl _ _)
  generalize Y.drew = Z at *
  (refine wpAnyH_tk 0 (some 14) (v := ?_) rfl rfl ?_ ?_; rotate_left; (focus (intro wq hSw; (try dsimp only at hSw); go_simp; all_goals (with_reducible rfl))); simp only [Act.put, lzT, lzZ, lzS])
  (refine wpAnyH_tk 1 (some 15) (v := ?_) rfl rfl ?_ ?_; rotate_left; (focus (intro wq hSw; (try dsimp only at hSw); go_simp; all_goals (with_reducible rfl))); simp only [Act.put, lzT, lzZ, lzS])
  (refine wpAnyH_tk 2 (some 16) (v := ?_) rfl rfl ?_ ?_; rotate_left; (focus (intro wq hSw; (try dsimp only at hSw); go_simp; all_goals (with_reducible rfl))); simp only [Act.put, lzT, lzZ, lzS])
  (refine wpAnyH_tk 3 (some 17) (v := ?_) rfl rfl ?_ ?_; rotate_left; (focus (intro wq hSw; (try dsimp only at hSw); go_simp; all_goals (with_reducible rfl))); simp only [Act.put, lzT, lzZ, lzS])
  refine wpAnyH_takeD (i := 5) (d := some 19) (v := .agg ([.int .i64 M.ki, .int .i64 id, .int .i64 too, .int .i64 M.di, .int .i64 M.b.au, .int .i64 M.b.n, .slice bA bn bc, .int .i64 M.h.au, .int .i64 M.h.ro, .slice xA xn xc, .slice yA yn yc, .int .i64 M.c.h.au, .int .i64 M.c.h.ro, .slice cA cn cc, .slice dA dn dc, .int .i64 M.c.di, .slice sA sn sc, .slice eA en ec]).toArray) rfl rfl (by kernel_rfl) (by kernel_rfl) (by kernel_rfl) (fun _ _ _ h => h) (yieldsIf_load_mid (by rfl) 54 _ rfl N 0 (by simp [Act.eval, Act.put]) ([.int .i64 M.ki, .int .i64 id, .int .i64 too, .int .i64 M.di, .int .i64 M.b.au, .int .i64 M.b.n, .slice bA bn bc, .int .i64 M.h.au, .int .i64 M.h.ro, .slice xA xn xc, .slice yA yn yc, .int .i64 M.c.h.au, .int .i64 M.c.h.ro, .slice cA cn cc, .slice dA dn dc, .int .i64 M.c.di, .slice sA sn sc, .slice eA en ec]) _ (hS1) Try.underlying54 (by rfl) (by kernel_rfl)) (by assumption) ?_
  simp only [Act.put, lzT, lzZ, lzS]
  refine wpAnyH_ready (rs := [4, 6]) (by kernel_rfl) (by simp) ?_
  refine AllReadyH.cons (o := _) rfl (fun K hK => ?_) (AllReadyH.cons (o := _) rfl (fun K hK => ?_) AllReadyH.nil)
  · skip
    obtain ⟨q9, qg⟩ := hc9 _ (hbd)
    go_simp
    refine hK.out _ _ (hS2 _ (hbd)) (fun hHeld => ?_)
    clear hK K q9 qg
    (try simp only [Act.put, lzT, lzZ, lzS])
    refine wpAnyH_ready (rs := [6]) (by kernel_rfl) (by simp) ?_
    refine AllReadyH.cons (o := _) rfl (fun K hK => ?_) AllReadyH.nil
    go_simp
    refine hK.out _ _ (hS2 _ (bel_alloc hbd)) (fun hHeld => ?_)
    clear hK K
    (try simp only [Act.put, lzT, lzZ, lzS])
    have HBX := Lib.hid (BoxR.new Z [.int .i64 M.ki, .int .i64 id, .int .i64 too, .int .i64 M.di, .int .i64 M.b.au, .int .i64 M.b.n, .slice bA bn bc, .int .i64 M.h.au, .int .i64 M.h.ro, .slice xA xn xc, .slice yA yn yc, .int .i64 M.c.h.au, .int .i64 M.c.h.ro, .slice cA cn cc, .slice dA dn dc, .int .i64 M.c.di, .slice sA sn sc, .slice eA en ec] 54)
    have hbZ : Below Y.heap.size Y (Z.alloc (.cells #[.int .i64 M.ki, .int .i64 id, .int .i64 too, .int .i64 M.di, .int .i64 M.b.au, .int .i64 M.b.n, .slice bA bn bc, .int .i64 M.h.au, .int .i64 M.h.ro, .slice xA xn xc, .slice yA yn yc, .int .i64 M.c.h.au, .int .i64 M.c.h.ro, .slice cA cn cc, .slice dA dn dc, .int .i64 M.c.di, .slice sA sn sc, .slice eA en ec] 54)) := bel_alloc hbd
    refine wpAnyH_ready (rs := [7]) (by kernel_rfl) (by simp) ?_
    refine AllReadyH.cons (o := _) rfl (fun K hK => ?_) AllReadyH.nil
    refine step_appM rfl (.tmp 18) (.tmp 20) rfl rfl B (.slice uA un uc) ps l (by simp [Act.eval, Act.put]) (HOY.out.up hbZ) Z.heap.size (sayM M id too) ⟨⟨bA, bn, bc⟩, ⟨⟨xA, xn, xc⟩, ⟨yA, yn, yc⟩⟩, ⟨⟨⟨cA, cn, cc⟩, ⟨dA, dn, dc⟩⟩, ⟨sA, sn, sc⟩⟩, ⟨eA, en, ec⟩⟩ (by simp [Act.eval, Act.put]) HBX.out ((HMY.out.up hbZ).say) hl (Nat.le_trans HSZ.out hbZ.size) ?_
    intro v5 w5 hown5 hg5 hb5
    refine hK.out _ _ (hS3 _ _ hbZ hg5) (fun hHeld => ?_)
    clear hK K
    (try simp only [Act.put, lzT, lzZ, lzS])
    obtain ⟨A5, c5, e5, _⟩ := hown5.read
    obtain ⟨n5, hn5⟩ : ∃ x, (l ++ [sayM M id too]).length = x := ⟨_, rfl⟩
    rw [hn5] at e5
    clear hn5
    subst e5
    have hk5 : KeepM Y w5 := (KeepM.of_below hbZ).trans (KeepM.of_grown (HOY.out.up hbZ).1 hg5)
    have hG5 := hk5 _ _ _ (by decide) HGY.out
    have hs5 := hS3 _ _ hbZ hg5
    (refine wpAnyH_tk 8 (some 22) (v := ?_) rfl rfl ?_ ?_; rotate_left; (focus (intro wq hSw; (try dsimp only at hSw); go_simp; all_goals (with_reducible rfl))); simp only [Act.put, lzT, lzZ, lzS])
    (refine wpAnyH_tk 9 (some 23) (v := ?_) rfl rfl ?_ ?_; rotate_left; (focus (intro wq hSw; (try dsimp only at hSw); go_simp; all_goals (with_reducible rfl))); simp only [Act.put, lzT, lzZ, lzS])
    refine wpAnyH_ready (rs := [10]) (by kernel_rfl) (by simp) ?_
    refine AllReadyH.cons (o := _) rfl (fun K hK => ?_) AllReadyH.nil
    have hf5 := hG5.frozen
    have hl5 := hG5.lt
    have q9 := hG5.box.2 9 _ rfl
    go_simp
    refine hK.out _ _ (hS4 _ _ _ hs5) (fun hHeld => ?_)
    clear hK K
    (try simp only [Act.put, lzT, lzZ, lzS])
    refine wpAnyH_done (by kernel_rfl) ?_ _
    go_end0
    exact ⟨w5, A5, n5, c5, rfl, rfl, Below.trans (hbX.mono hB) (Below.trans (hbZ.mono HSZ.out) hb5), (KeepM.of_below hbX).trans hk5, hown5⟩
  · skip
    go_simp
    refine hK.out _ _ (hS2 _ (bel_alloc hbd)) (fun hHeld => ?_)
    clear hK K
    (try simp only [Act.put, lzT, lzZ, lzS])
    refine wpAnyH_ready (rs := [4]) (by kernel_rfl) (by simp) ?_
    refine AllReadyH.cons (o := _) rfl (fun K hK => ?_) AllReadyH.nil
    obtain ⟨q9, qg⟩ := hc9 (Z.alloc (.cells #[.int .i64 M.ki, .int .i64 id, .int .i64 too, .int .i64 M.di, .int .i64 M.b.au, .int .i64 M.b.n, .slice bA bn bc, .int .i64 M.h.au, .int .i64 M.h.ro, .slice xA xn xc, .slice yA yn yc, .int .i64 M.c.h.au, .int .i64 M.c.h.ro, .slice cA cn cc, .slice dA dn dc, .int .i64 M.c.di, .slice sA sn sc, .slice eA en ec] 54)) (bel_alloc hbd)
    go_simp
    refine hK.out _ _ (hS2 (Z.alloc (.cells #[.int .i64 M.ki, .int .i64 id, .int .i64 too, .int .i64 M.di, .int .i64 M.b.au, .int .i64 M.b.n, .slice bA bn bc, .int .i64 M.h.au, .int .i64 M.h.ro, .slice xA xn xc, .slice yA yn yc, .int .i64 M.c.h.au, .int .i64 M.c.h.ro, .slice cA cn cc, .slice dA dn dc, .int .i64 M.c.di, .slice sA sn sc, .slice eA en ec] 54)) (bel_alloc hbd)) (fun hHeld => ?_)
    clear hK K q9 qg
    (try simp only [Act.put, lzT, lzZ, lzS])
    have HBX := Lib.hid (BoxR.new Z [.int .i64 M.ki, .int .i64 id, .int .i64 too, .int .i64 M.di, .int .i64 M.b.au, .int .i64 M.b.n, .slice bA bn bc, .int .i64 M.h.au, .int .i64 M.h.ro, .slice xA xn xc, .slice yA yn yc, .int .i64 M.c.h.au, .int .i64 M.c.h.ro, .slice cA cn cc, .slice dA dn dc, .int .i64 M.c.di, .slice sA sn sc, .slice eA en ec] 54)
    have hbZ : Below Y.heap.size Y (Z.alloc (.cells #[.int .i64 M.ki, .int .i64 id, .int .i64 too, .int .i64 M.di, .int .i64 M.b.au, .int .i64 M.b.n, .slice bA bn bc, .int .i64 M.h.au, .int .i64 M.h.ro, .slice xA xn xc, .slice yA yn yc, .int .i64 M.c.h.au, .int .i64 M.c.h.ro, .slice cA cn cc, .slice dA dn dc, .int .i64 M.c.di, .slice sA sn sc, .slice eA en ec] 54)) := bel_alloc hbd
    refine wpAnyH_ready (rs := [7]) (by kernel_rfl) (by simp) ?_
    refine AllReadyH.cons (o := _) rfl (fun K hK => ?_) AllReadyH.nil
    refine step_appM rfl (.tmp 18) (.tmp 20) rfl rfl B (.slice uA un uc) ps l (by simp [Act.eval, Act.put]) (HOY.out.up hbZ) Z.heap.size (sayM M id too) ⟨⟨bA, bn, bc⟩, ⟨⟨xA, xn, xc⟩, ⟨yA, yn, yc⟩⟩, ⟨⟨⟨cA, cn, cc⟩, ⟨dA, dn, dc⟩⟩, ⟨sA, sn, sc⟩⟩, ⟨eA, en, ec⟩⟩ (by simp [Act.eval, Act.put]) HBX.out ((HMY.out.up hbZ).say) hl (Nat.le_trans HSZ.out hbZ.size) ?_
    intro v5 w5 hown5 hg5 hb5
    refine hK.out _ _ (hS3 _ _ hbZ hg5) (fun hHeld => ?_)
    clear hK K
    (try simp only [Act.put, lzT, lzZ, lzS])
    obtain ⟨A5, c5, e5, _⟩ := hown5.read
    obtain ⟨n5, hn5⟩ : ∃ x, (l ++ [sayM M id too]).length = x := ⟨_, rfl⟩
    rw [hn5] at e5
    clear hn5
    subst e5
    have hk5 : KeepM Y w5 := (KeepM.of_below hbZ).trans (KeepM.of_grown (HOY.out.up hbZ).1 hg5)
    have hG5 := hk5 _ _ _ (by decide) HGY.out
    have hs5 := hS3 _ _ hbZ hg5
    (refine wpAnyH_tk 8 (some 22) (v := ?_) rfl rfl ?_ ?_; rotate_left; (focus (intro wq hSw; (try dsimp only at hSw); go_simp; all_goals (with_reducible rfl))); simp only [Act.put, lzT, lzZ, lzS])
    (refine wpAnyH_tk 9 (some 23) (v := ?_) rfl rfl ?_ ?_; rotate_left; (focus (intro wq hSw; (try dsimp only at hSw); go_simp; all_goals (with_reducible rfl))); simp only [Act.put, lzT, lzZ, lzS])
    refine wpAnyH_ready (rs := [10]) (by kernel_rfl) (by simp) ?_
    refine AllReadyH.cons (o := _) rfl (fun K hK => ?_) AllReadyH.nil
    have hf5 := hG5.frozen
    have hl5 := hG5.lt
    have q9 := hG5.box.2 9 _ rfl
    go_simp
    refine hK.out _ _ (hS4 _ _ _ hs5) (fun hHeld => ?_)
    clear hK K
    (try simp only [Act.put, lzT, lzZ, lzS])
    refine wpAnyH_done (by kernel_rfl) ?_ _
    go_end0
    exact ⟨w5, A5, n5, c5, rfl, rfl, Below.trans (hbX.mono hB) (Below.trans (hbZ.mono HSZ.out) hb5), (KeepM.of_below hbX).trans hk5, hown5⟩
end Go.Proofs.Ytgfakefcmbpboaa
