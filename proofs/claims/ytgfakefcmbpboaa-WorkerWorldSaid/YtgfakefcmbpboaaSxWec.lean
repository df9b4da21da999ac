/- droverlaw13.only: one kind of act, each with the same worker. -/
import Derived.Test.YtgfakefcmbpboaaSxWsf
import Derived.Test.YtgfakefcmbpboaaSxWq
import Derived.Deep.MidRow
import Derived.Test.YtgfakefcmbpboaaSxWeb
namespace Go.Proofs.Ytgfakefcmbpboaa
open Go.RowKit
set_option linter.unusedSimpArgs false
set_option linter.unusedVariables false

theorem bel_setCells {n : Nat} {w : World} {b : Nat} (hb : n ≤ b) : ∀ (vs : List Value) (o : Nat) (x : World), Below n w x → Below n w (x.setCells b o vs)
  | [], _, _, h => h
  | v :: r, o, x, h => by
    rw [World.setCells]
    exact bel_setCells hb r (o + 1) _ (h.setCell (p := ⟨b, o, none⟩) hb v)
end Go.Proofs.Ytgfakefcmbpboaa
namespace Go.Proofs.Ytgfakefcmbpboaa
open Go.RowKit
set_option linter.unusedSimpArgs false
set_option linter.unusedVariables false

theorem Blk.thr {w : World} {g : Nat} {t : TypeId} {cs : List Value} (h : Blk w g t cs) : w.there g 0 cs.length := fun j hj => ⟨by rw [Nat.zero_add, h.box.2 j _ (List.getElem?_eq_getElem hj)]; simp, by rw [Nat.zero_add]; exact h.frozen j⟩
set_option maxRecDepth 100000 in
set_option maxHeartbeats 1000000 in
theorem message_head (H K : HeaderD) (b1A p1A b2A p2A : Option Addr) (b1n b1c p1n p1c b2n b2c p2n p2c : Nat) (y : Bool) (w : World) (hy : dec (H.au = K.au ∧ H.ro = K.ro ∧ b1n = b2n ∧ p1n = p2n) = y) :
    Calls Try.prog 57 #[.agg #[.int .i64 H.au, .int .i64 H.ro, .slice b1A b1n b1c, .slice p1A p1n p1c], .agg #[.int .i64 K.au, .int .i64 K.ro, .slice b2A b2n b2c, .slice p2A p2n p2c]] w fun e w' => e = .returned (.bool y) ∧ Below w.heap.size w w' := by
  obtain ⟨au, ro, ba, pa⟩ := H
  obtain ⟨au', ro', ba', pa'⟩ := K
  dsimp only at hy ⊢
  have HY := Lib.hid hy
  clear hy
  by_cases h0 : au = au'
  rotate_left
  · have hy0 : y = false := by rw [← HY.out]; exact (dec_false (fun g => h0 g.1)).symm
    clear HY; subst hy0
    go_enter Try.func57, Try.ntmps57
    go_wp2_with fail
    go_ret
    first | exact ⟨rfl, belB⟩ | exact ⟨ret_bool (by simp; omega), belB⟩
  subst h0
  by_cases h1 : ro = ro'
  rotate_left
  · have hy0 : y = false := by rw [← HY.out]; exact (dec_false (fun g => h1 g.2.1)).symm
    clear HY; subst hy0
    go_enter Try.func57, Try.ntmps57
    go_wp2_with fail
    go_ret
    first | exact ⟨rfl, belB⟩ | exact ⟨ret_bool (by simp; omega), belB⟩
  subst h1
  by_cases h2 : b1n = b2n
  rotate_left
  · have hy0 : y = false := by rw [← HY.out]; exact (dec_false (fun g => h2 g.2.2.1)).symm
    clear HY; subst hy0
    go_enter Try.func57, Try.ntmps57
    go_wp2_with fail
    go_ret
    first | exact ⟨rfl, belB⟩ | exact ⟨ret_bool (by simp; omega), belB⟩
  subst h2
  by_cases h3 : p1n = p2n
  rotate_left
  · have hy0 : y = false := by rw [← HY.out]; exact (dec_false (fun g => h3 g.2.2.2)).symm
    clear HY; subst hy0
    go_enter Try.func57, Try.ntmps57
    go_wp2_with fail
    go_ret
    first | exact ⟨rfl, belB⟩ | exact ⟨ret_bool (by simp; omega), belB⟩
  subst h3
  have hy0 : y = true := by rw [← HY.out]; exact dec_t ⟨rfl, rfl, rfl, rfl⟩
  clear HY; subst hy0
  go_enter Try.func57, Try.ntmps57
  go_wp2_with fail
  go_ret
  first | exact ⟨rfl, belB⟩ | exact ⟨ret_bool (by simp), belB⟩
set_option maxRecDepth 100000 in
set_option maxHeartbeats 8000000 in
theorem message_only2 (P : MsgP) (M : MsgD) (n : Int) (y : Bool) (w : World) (hk : M.ki = 2) (hy : digS M.di = y) :
    Calls Try.prog 56 #[M18 P M, .int .i64 n] w fun e w' => e = .returned (.tuple #[.agg #[.int .i64 2, .int .i64 M.fr, .int .i64 M.tt, .int .i64 M.di, .int .i64 0, .int .i64 0, .slice none 0 0, .int .i64 0, .int .i64 0, .slice none 0 0, .slice none 0 0, .int .i64 0, .int .i64 0, .slice none 0 0, .slice none 0 0, .int .i64 0, .slice none 0 0, .slice none 0 0], .bool y]) ∧ Below w.heap.size w w' := by
  obtain ⟨⟨bA, bn, bc⟩, ⟨⟨xA, xn, xc⟩, ⟨yA, yn, yc⟩⟩, ⟨⟨⟨cA, cn, cd⟩, ⟨dA, dn, dc⟩⟩, ⟨sA, sn, sc⟩⟩, ⟨eA, en, ec⟩⟩ := P
  obtain ⟨ki, fr, tt, di, b, hd, cc, ds⟩ := M
  dsimp only at hk hy
  subst hk
  have HD := Lib.hid hy
  clear hy
  show Calls Try.prog 56 #[.agg #[.int .i64 2, .int .i64 fr, .int .i64 tt, .int .i64 di, .int .i64 b.au, .int .i64 b.n, .slice bA bn bc, .int .i64 hd.au, .int .i64 hd.ro, .slice xA xn xc, .slice yA yn yc, .int .i64 cc.h.au, .int .i64 cc.h.ro, .slice cA cn cd, .slice dA dn dc, .int .i64 cc.di, .slice sA sn sc, .slice eA en ec], .int .i64 n] w fun e w' => e = .returned (.tuple #[.agg #[.int .i64 2, .int .i64 fr, .int .i64 tt, .int .i64 di, .int .i64 0, .int .i64 0, .slice none 0 0, .int .i64 0, .int .i64 0, .slice none 0 0, .slice none 0 0, .int .i64 0, .int .i64 0, .slice none 0 0, .slice none 0 0, .int .i64 0, .slice none 0 0, .slice none 0 0], .bool y]) ∧ Below w.heap.size w w'
  go_enter Try.func56, Try.ntmps56
  go_upto_region 2 with fail
  refine wp_world (fun W hW => ?_)
  have HBM : Hid (Blk W w.heap.size 54 [.int .i64 2, .int .i64 fr, .int .i64 tt, .int .i64 di, .int .i64 b.au, .int .i64 b.n, .slice bA bn bc, .int .i64 hd.au, .int .i64 hd.ro, .slice xA xn xc, .slice yA yn yc, .int .i64 cc.h.au, .int .i64 cc.h.ro, .slice cA cn cd, .slice dA dn dc, .int .i64 cc.di, .slice sA sn sc, .slice eA en ec]) := Lib.hid (by rw [hW]; exact (Blk.new w 54 [.int .i64 2, .int .i64 fr, .int .i64 tt, .int .i64 di, .int .i64 b.au, .int .i64 b.n, .slice bA bn bc, .int .i64 hd.au, .int .i64 hd.ro, .slice xA xn xc, .slice yA yn yc, .int .i64 cc.h.au, .int .i64 cc.h.ro, .slice cA cn cd, .slice dA dn dc, .int .i64 cc.di, .slice sA sn sc, .slice eA en ec]).up (bel_alloc (Below.refl _ _)))
  have HBX : Hid (Blk W (w.heap.size + 1) 54 [.int .i64 2, .int .i64 fr, .int .i64 tt, .int .i64 0, .int .i64 0, .int .i64 0, .slice none 0 0, .int .i64 0, .int .i64 0, .slice none 0 0, .slice none 0 0, .int .i64 0, .int .i64 0, .slice none 0 0, .slice none 0 0, .int .i64 0, .slice none 0 0, .slice none 0 0]) := Lib.hid (by rw [hW]; exact Blk.new1 w 54 54 [.int .i64 2, .int .i64 fr, .int .i64 tt, .int .i64 di, .int .i64 b.au, .int .i64 b.n, .slice bA bn bc, .int .i64 hd.au, .int .i64 hd.ro, .slice xA xn xc, .slice yA yn yc, .int .i64 cc.h.au, .int .i64 cc.h.ro, .slice cA cn cd, .slice dA dn dc, .int .i64 cc.di, .slice sA sn sc, .slice eA en ec] [.int .i64 2, .int .i64 fr, .int .i64 tt, .int .i64 0, .int .i64 0, .int .i64 0, .slice none 0 0, .int .i64 0, .int .i64 0, .slice none 0 0, .slice none 0 0, .int .i64 0, .int .i64 0, .slice none 0 0, .slice none 0 0, .int .i64 0, .slice none 0 0, .slice none 0 0])
  have hb0 : Below w.heap.size w W := by rw [hW]; exact bel_alloc (bel_alloc (Below.refl _ _))
  clear hW
  have hsz : w.heap.size + 1 < W.heap.size := HBX.out.lt
  have m0 : W.cell? ⟨w.heap.size, 0, none⟩ = some (.int .i64 2) := HBM.out.box.2 0 _ rfl
  have m3 : W.cell? ⟨w.heap.size, 3, none⟩ = some (.int .i64 di) := HBM.out.box.2 3 _ rfl
  have x3 : W.cell? ⟨w.heap.size + 1, 3, none⟩ = some (.int .i64 0) := HBX.out.box.2 3 _ rfl
  have f3 : W.frozen? ⟨w.heap.size + 1, 3, none⟩ = false := HBX.out.frozen 3
  go_upto_region 21 with (go_at_call 49; (with_reducible refine (comm_Digest di _ _ HD.out).mono ?_); rintro e w' ⟨rfl, rfl⟩)
  refine wp_world (fun V hV => ?_)
  have HVX : Hid (Blk V (w.heap.size + 1) 54 [.int .i64 2, .int .i64 fr, .int .i64 tt, .int .i64 di, .int .i64 0, .int .i64 0, .slice none 0 0, .int .i64 0, .int .i64 0, .slice none 0 0, .slice none 0 0, .int .i64 0, .int .i64 0, .slice none 0 0, .slice none 0 0, .int .i64 0, .slice none 0 0, .slice none 0 0]) := Lib.hid (by rw [hV]; exact HBX.out.set_ 3 _)
  have hb2 : Below w.heap.size w V := by rw [hV]; exact hb0.setCell (p := ⟨w.heap.size + 1, 3, none⟩) (by simp) _
  clear hV m0 m3 x3 f3 HBM HBX hsz hb0
  as_aux_lemma =>
    refine wp_region_list ?_
    simp only [List.toList_toArray]
    refine wpList_load_mid rfl 54 _ rfl (w.heap.size + 1) 0 (by simp [Act.eval, Act.put]) [.int .i64 2, .int .i64 fr, .int .i64 tt, .int .i64 di, .int .i64 0, .int .i64 0, .slice none 0 0, .int .i64 0, .int .i64 0, .slice none 0 0, .slice none 0 0, .int .i64 0, .int .i64 0, .slice none 0 0, .slice none 0 0, .int .i64 0, .slice none 0 0, .slice none 0 0] _ HVX.out.rng Try.underlying54 (by rfl) (by kernel_rfl) ?_
    (try simp only [Act.put, lzT, lzZ, lzS])
    refine wpList_plain rfl (fun K hK => ?_)
    go_simp
    refine hK _ _ ?_
    clear hK K
    (try simp only [Act.put, lzT, lzZ, lzS])
    refine wpList_store_mid rfl 54 _ _ rfl (w.heap.size + 1) 0 ([.int .i64 2, .int .i64 fr, .int .i64 tt, .int .i64 di, .int .i64 0, .int .i64 0, .slice none 0 0, .int .i64 0, .int .i64 0, .slice none 0 0, .slice none 0 0, .int .i64 0, .int .i64 0, .slice none 0 0, .slice none 0 0, .int .i64 0, .slice none 0 0, .slice none 0 0]).toArray (by simp [Act.eval, Act.put]) (by simp [Act.eval, Act.put]) HVX.out.thr (by kernel_rfl) (all_oneCell_toArray (by simp [Value.oneCell'])) ?_
    (try simp only [Act.put, lzT, lzZ, lzS])
    refine wpList_plain rfl (fun K hK => ?_)
    go_simp
    refine hK _ _ ?_
    clear hK K
    (try simp only [Act.put, lzT, lzZ, lzS])
    refine wpList_nil ?_
    have hrg : (V.setCells (w.heap.size + 1) 0 [.int .i64 2, .int .i64 fr, .int .i64 tt, .int .i64 di, .int .i64 0, .int .i64 0, .slice none 0 0, .int .i64 0, .int .i64 0, .slice none 0 0, .slice none 0 0, .int .i64 0, .int .i64 0, .slice none 0 0, .slice none 0 0, .int .i64 0, .slice none 0 0, .slice none 0 0]).rangeAt (w.heap.size + 1) 0 [.int .i64 2, .int .i64 fr, .int .i64 tt, .int .i64 di, .int .i64 0, .int .i64 0, .slice none 0 0, .int .i64 0, .int .i64 0, .slice none 0 0, .slice none 0 0, .int .i64 0, .int .i64 0, .slice none 0 0, .slice none 0 0, .int .i64 0, .slice none 0 0, .slice none 0 0] := World.rangeAt_setCells_same V (w.heap.size + 1) 0 [.int .i64 2, .int .i64 fr, .int .i64 tt, .int .i64 di, .int .i64 0, .int .i64 0, .slice none 0 0, .int .i64 0, .int .i64 0, .slice none 0 0, .slice none 0 0, .int .i64 0, .int .i64 0, .slice none 0 0, .slice none 0 0, .int .i64 0, .slice none 0 0, .slice none 0 0] HVX.out.thr
    have hb3 : Below w.heap.size w (V.setCells (w.heap.size + 1) 0 [.int .i64 2, .int .i64 fr, .int .i64 tt, .int .i64 di, .int .i64 0, .int .i64 0, .slice none 0 0, .int .i64 0, .int .i64 0, .slice none 0 0, .slice none 0 0, .int .i64 0, .int .i64 0, .slice none 0 0, .slice none 0 0, .int .i64 0, .slice none 0 0, .slice none 0 0]) := bel_setCells (by omega) _ _ _ hb2
    try simp only [List.toList_toArray]
    obtain ⟨U, hU⟩ : ∃ U, U = V.setCells (w.heap.size + 1) 0 [.int .i64 2, .int .i64 fr, .int .i64 tt, .int .i64 di, .int .i64 0, .int .i64 0, .slice none 0 0, .int .i64 0, .int .i64 0, .slice none 0 0, .slice none 0 0, .int .i64 0, .int .i64 0, .slice none 0 0, .slice none 0 0, .int .i64 0, .slice none 0 0, .slice none 0 0] := ⟨_, rfl⟩
    rw [← hU] at hrg hb3 ⊢
    clear hU HVX hb2
    as_aux_lemma =>
      have c0 : U.cell? ⟨w.heap.size + 1, 0, none⟩ = _ := hrg 0 _ rfl
      have c1 : U.cell? ⟨w.heap.size + 1, 1, none⟩ = _ := hrg 1 _ rfl
      have c2 : U.cell? ⟨w.heap.size + 1, 2, none⟩ = _ := hrg 2 _ rfl
      have c3 : U.cell? ⟨w.heap.size + 1, 3, none⟩ = _ := hrg 3 _ rfl
      have c4 : U.cell? ⟨w.heap.size + 1, 4, none⟩ = _ := hrg 4 _ rfl
      have c5 : U.cell? ⟨w.heap.size + 1, 5, none⟩ = _ := hrg 5 _ rfl
      have c6 : U.cell? ⟨w.heap.size + 1, 6, none⟩ = _ := hrg 6 _ rfl
      have c7 : U.cell? ⟨w.heap.size + 1, 7, none⟩ = _ := hrg 7 _ rfl
      have c8 : U.cell? ⟨w.heap.size + 1, 8, none⟩ = _ := hrg 8 _ rfl
      have c9 : U.cell? ⟨w.heap.size + 1, 9, none⟩ = _ := hrg 9 _ rfl
      have c10 : U.cell? ⟨w.heap.size + 1, 10, none⟩ = _ := hrg 10 _ rfl
      have c11 : U.cell? ⟨w.heap.size + 1, 11, none⟩ = _ := hrg 11 _ rfl
      have c12 : U.cell? ⟨w.heap.size + 1, 12, none⟩ = _ := hrg 12 _ rfl
      have c13 : U.cell? ⟨w.heap.size + 1, 13, none⟩ = _ := hrg 13 _ rfl
      have c14 : U.cell? ⟨w.heap.size + 1, 14, none⟩ = _ := hrg 14 _ rfl
      have c15 : U.cell? ⟨w.heap.size + 1, 15, none⟩ = _ := hrg 15 _ rfl
      have c16 : U.cell? ⟨w.heap.size + 1, 16, none⟩ = _ := hrg 16 _ rfl
      have c17 : U.cell? ⟨w.heap.size + 1, 17, none⟩ = _ := hrg 17 _ rfl
      go_wp2_with fail
      refine bodyPost_ret (v := .tuple #[.agg #[.int .i64 2, .int .i64 fr, .int .i64 tt, .int .i64 di, .int .i64 0, .int .i64 0, .slice none 0 0, .int .i64 0, .int .i64 0, .slice none 0 0, .slice none 0 0, .int .i64 0, .int .i64 0, .slice none 0 0, .slice none 0 0, .int .i64 0, .slice none 0 0, .slice none 0 0], .bool y]) (by simp [results, Try.results56, go_sem, c0, c1, c2, c3, c4, c5, c6, c7, c8, c9, c10, c11, c12, c13, c14, c15, c16, c17]) rfl ⟨rfl, hb3⟩

end Go.Proofs.Ytgfakefcmbpboaa
