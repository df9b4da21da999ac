/- droverlaw13.only: one kind of act, each with the same worker. -/
import Derived.Test.YtgfakefcmbpboaaGreatSuWsf
import Derived.Test.YtgfakefcmbpboaaGreatSuWq
import Derived.Deep.MidRow
import Derived.Test.YtgfakefcmbpboaaGreatSuWeb
namespace Go.Proofs.YtgfakefcmbpboaaGreat
set_option linter.all false
set_option maxRecDepth 100000
open Go.RowKit

theorem bel_setCells {n : Nat} {w : World} {b : Nat} (hb : n ≤ b) : ∀ (vs : List Value) (o : Nat) (x : World), Below n w x → Below n w (x.setCells b o vs)
  | [], _, _, h => h
  | v :: r, o, x, h => by
    rw [World.setCells]
    exact bel_setCells hb r (o + 1) _ (h.setCell (p := ⟨b, o, none⟩) hb v)
theorem jobCells_one (MP : MsgP) (SP : SlP) (a : JobD) : ∀ v ∈ jobCells MP SP a, v.oneCell' = true := by
  intro v hv
  simp only [jobCells, List.mem_cons, List.not_mem_nil, or_false] at hv
  rcases hv with rfl | rfl | rfl | rfl | rfl | rfl | rfl | rfl | rfl | rfl | rfl | rfl | rfl | rfl | rfl | rfl | rfl | rfl | rfl | rfl | rfl | rfl | rfl | rfl | rfl | rfl <;> rfl
open Go.RowKit

theorem Blk.thr {w : World} {g : Nat} {t : TypeId} {cs : List Value} (h : Blk w g t cs) : w.there g 0 cs.length := fun j hj => ⟨by rw [Nat.zero_add, h.box.2 j _ (List.getElem?_eq_getElem hj)]; simp, by rw [Nat.zero_add]; exact h.frozen j⟩
set_option maxHeartbeats 1000000 in
theorem message_head (H K : HeaderD) (b1A p1A b2A p2A : Option Addr) (b1n b1c p1n p1c b2n b2c p2n p2c : Nat) (y : Bool) (w : World) (hy : dec (H.au = K.au ∧ H.ro = K.ro ∧ b1n = b2n ∧ p1n = p2n) = y) :
    Calls Tryz.prog 131 #[.agg #[.int .i64 H.au, .int .i64 H.ro, .slice b1A b1n b1c, .slice p1A p1n p1c], .agg #[.int .i64 K.au, .int .i64 K.ro, .slice b2A b2n b2c, .slice p2A p2n p2c]] w fun e w' => e = .returned (.bool y) ∧ Below w.heap.size w w' := by
  obtain ⟨au, ro, ba, pa⟩ := H
  obtain ⟨au', ro', ba', pa'⟩ := K
  dsimp only at hy ⊢
  have HY := ħ hy
  clear hy
  by_cases h0 : au = au'
  rotate_left
  · have hy0 : y = false := by rw [← HY.out]; exact (dec_false (fun g => h0 g.1)).symm
    clear HY; subst hy0
    go_enter Tryz.func131, Tryz.ntmps131
    go_wp2_with fail
    go_ret
    first | exact ⟨rfl, belB⟩ | exact ⟨ret_bool (by simp; omega), belB⟩
  subst h0
  by_cases h1 : ro = ro'
  rotate_left
  · have hy0 : y = false := by rw [← HY.out]; exact (dec_false (fun g => h1 g.2.1)).symm
    clear HY; subst hy0
    go_enter Tryz.func131, Tryz.ntmps131
    go_wp2_with fail
    go_ret
    first | exact ⟨rfl, belB⟩ | exact ⟨ret_bool (by simp; omega), belB⟩
  subst h1
  by_cases h2 : b1n = b2n
  rotate_left
  · have hy0 : y = false := by rw [← HY.out]; exact (dec_false (fun g => h2 g.2.2.1)).symm
    clear HY; subst hy0
    go_enter Tryz.func131, Tryz.ntmps131
    go_wp2_with fail
    go_ret
    first | exact ⟨rfl, belB⟩ | exact ⟨ret_bool (by simp; omega), belB⟩
  subst h2
  by_cases h3 : p1n = p2n
  rotate_left
  · have hy0 : y = false := by rw [← HY.out]; exact (dec_false (fun g => h3 g.2.2.2)).symm
    clear HY; subst hy0
    go_enter Tryz.func131, Tryz.ntmps131
    go_wp2_with fail
    go_ret
    first | exact ⟨rfl, belB⟩ | exact ⟨ret_bool (by simp; omega), belB⟩
  subst h3
  have hy0 : y = true := by rw [← HY.out]; exact dec_t ⟨rfl, rfl, rfl, rfl⟩
  clear HY; subst hy0
  go_enter Tryz.func131, Tryz.ntmps131
  go_wp2_with fail
  go_ret
  first | exact ⟨rfl, belB⟩ | exact ⟨ret_bool (by simp), belB⟩
end Go.Proofs.YtgfakefcmbpboaaGreat
