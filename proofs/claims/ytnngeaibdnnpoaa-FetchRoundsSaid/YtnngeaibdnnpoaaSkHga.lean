/- Fetch: slices.Delete at rows. -/
import Derived.Test.YtnngeaibdnnpoaaSkHr2
import Derived.Deep.Cut
import Derived.Deep.CutRange
namespace Go.Proofs.Ytnngeaibdnnpoaa
open Go.RowKit
set_option linter.unusedSimpArgs false
set_option linter.unusedVariables false

set_option maxRecDepth 100000 in
/-- clear of what stands from i on. -/
theorem run_clear_Q {w : World} {B n c g i cc : Nat} {xs : List Value} (h : w.ownsRow B 55 4 (.slice (some ⟨g, 0, none⟩) n c) n xs) (hi : i < n) (ty : TypeId) : ∃ w', (Builtin.clear_ #[22] ty #[.slice (some ⟨g, i * 4, none⟩) (n - i) cc]).run Try.prog w = .ok (.tuple #[]) w' ∧ w'.ownsRow B 55 4 (.slice (some ⟨g, 0, none⟩) i c) i (xs.take (i * 4)) ∧ w.grownBy w' (some g) := by
  obtain ⟨i0, hi0, hz0, hzs, hzb⟩ := info_parts info_Row
  have hx := h.1
  rcases h.2 with ⟨e, _⟩ | ⟨g', cap, cur, e, hb, hg, hc, hm, hs, ht⟩
  · cases e
  · injection e with e1 e2 e3
    injection e1 with e1; injection e1 with e1
    subst e1; subst e3
    obtain ⟨zs, hzz⟩ : ∃ zs, zs = (Builtin.zeroCells (.agg #[.int .i64 0, .int .i64 0, .int .i64 0, .int .i64 0] : Value).cells (n - i)).toList := ⟨_, rfl⟩
    have hzl : zs.length = (n - i) * 4 := by rw [hzz]; simp [Builtin.zeroCells, Value.cells]
    have hz1 : ∀ v ∈ zs, v.oneCell' = true := fun v hv => by
      rw [hzz] at hv
      simp only [Builtin.zeroCells, Value.cells, Array.toList_map, List.mem_map] at hv
      obtain ⟨q, _, rfl⟩ := hv
      have : q % 4 = 0 ∨ q % 4 = 1 ∨ q % 4 = 2 ∨ q % 4 = 3 := by omega
      rcases this with h | h | h | h <;> simp [h, Value.oneCell']
    have hst := run_storeCells_at Try.prog g (i * 4) 55 zs 0 cur w hg (by rw [hzl, hs]; omega) hz1
    rw [Nat.add_zero] at hst
    obtain ⟨m, hm2⟩ : ∃ m, n - i = m + 1 := ⟨n - i - 1, by omega⟩
    have hrun : (Builtin.clear_ #[22] ty #[.slice (some ⟨g, i * 4, none⟩) (n - i) cc]).run Try.prog w = .ok (.tuple #[]) (w.setRow g (cur.toList.take (i * 4) ++ zs ++ cur.toList.drop (i * 4 + zs.length)).toArray) := by
      rw [hm2] at hzz ⊢
      rw [hzz] at hst ⊢
      simp [Builtin.clear_, run_underlying Try.underlying22, zeroValue, typeInfo, hi0, hz0, hst]
    have hcl : cur.toList.length = c * 4 := by simpa using hs
    refine ⟨_, hrun, ⟨by rw [List.length_take, hx]; omega, .inr ⟨g, c, _, rfl, hb, setRow_heap w g cur _ _ _ hg, by omega, hm, ?_, ?_⟩⟩, ⟨rfl, rfl, rfl, by simp, fun k _ hk => setRow_other _ _ _ _ (fun e => hk (by simp [e]))⟩⟩
    · simp only [List.size_toArray, List.length_append, List.length_take, List.length_drop, hzl, hcl]; omega
    · have e1 : (cur.toList.take (i * 4)).length = i * 4 := by rw [List.length_take, hcl]; omega
      simp only [List.append_assoc]
      rw [List.take_left' e1, ← ht, List.take_take]
      congr 1; omega
/-- Delete's append: what stands behind i + 1 moves one down. -/
theorem run_del_Q {w : World} {B n c g i : Nat} {l : List FRowD} (h : w.ownsRow B 55 4 (.slice (some ⟨g, 0, none⟩) n c) n (flat encQ l)) (hl : l.length = n) (hi : i < n) (AD : Addr) (hAD : AD = ⟨g, (i + 1) * 4, none⟩ ∨ n = i + 1) :
    ∃ w', (∀ W : World, W.heap = w.heap → ∀ ty m cc, m = n - (i + 1) → (Builtin.append_ #[22, 22] ty #[.slice (some ⟨g, 0, none⟩) i c, .slice (some AD) m cc]).run Try.prog W = .ok (.slice (some ⟨g, 0, none⟩) (n - 1) c) (W.setRow g w')) ∧
      ∀ W : World, W.heap = w.heap → ∃ xs : List Value, (W.setRow g w').ownsRow B 55 4 (.slice (some ⟨g, 0, none⟩) n c) n xs ∧ xs.take ((n - 1) * 4) = flat encQ (l.take i ++ l.drop (i + 1)) := by
  obtain ⟨i0, hi0, hz0, hzs, hzb⟩ := info_parts info_Row
  have hx := h.1
  obtain ⟨g1, f1⟩ := own_get h
  rcases h.2 with ⟨e, _⟩ | ⟨g', cap, cur, e, hb, hg, hc, hm, hs, ht⟩
  · cases e
  · injection e with e1 e2 e3
    injection e1 with e1; injection e1 with e1
    subst e1; subst e3
    obtain ⟨news, hnw⟩ : ∃ news, news = (flat encQ l).drop ((i + 1) * 4) := ⟨_, rfl⟩
    have hnl : news.length = (n - (i + 1)) * 4 := by rw [hnw, List.length_drop, hx]; omega
    have hcl : cur.toList.length = c * 4 := by simpa using hs
    have e1 : (cur.toList.take (i * 4)).length = i * 4 := by rw [List.length_take, hcl]; omega
    refine ⟨(cur.toList.take (i * 4) ++ news ++ cur.toList.drop (i * 4 + news.length)).toArray, fun W hW ty m cc hmm => ?_, fun W hW => ?_⟩
    · subst hmm
      have := run_append_room (P := Try.prog) W 22 ty 55 i0 Try.underlying22 hi0 g i c cur (by rw [hW]; exact hg) AD (n - (i + 1)) cc news (by rw [hnl, hzs]) (fun j u hj => by
        rcases hAD with hAD | hAD
        · subst hAD
          rw [hnw, List.getElem?_drop] at hj
          have hj2 := g1 _ u hj
          rw [Addr.add_lit]
          exact (World.cell?_of_block (w := w) (w' := W) (a := ⟨g, (i + 1) * 4 + j, none⟩) (by rw [hW])).trans hj2
        · have : news = [] := List.eq_nil_of_length_eq_zero (by rw [hnl]; omega)
          rw [this] at hj; cases hj) (fun u hu => flat_oneCell encQ_one l u (by rw [hnw] at hu; exact List.mem_of_mem_drop hu)) (by omega) (by rw [hzs, hnl, hs]; omega)
      rw [hzs, show i + (n - (i + 1)) = n - 1 by omega] at this
      exact this
    · refine ⟨(cur.toList.take (i * 4) ++ news ++ cur.toList.drop (i * 4 + news.length)).take (n * 4), ⟨?_, .inr ⟨g, c, _, rfl, hb, setRow_heap W g cur _ _ _ (by rw [hW]; exact hg), hc, hm, ?_, rfl⟩⟩, ?_⟩
      · rw [List.length_take]; simp only [List.length_append, List.length_drop, e1, hcl, hnl]; omega
      · simp only [List.size_toArray, List.length_append, List.length_drop, e1, hcl, hnl]; omega
      · rw [List.take_take, show min ((n - 1) * 4) (n * 4) = (n - 1) * 4 by omega, flat_app, flat_take encQ_len, flat_drop encQ_len, ← hnw, ← ht, List.take_take, show min (i * 4) (n * 4) = i * 4 by omega]
        exact List.take_left' (by simp only [List.length_append, e1, hnl]; omega)
set_option maxRecDepth 100000 in
set_option maxHeartbeats 4000000 in
theorem slices_Delete_Q (v : Value) (l : List FRowD) (B n i : Nat) (w : World) (hown : w.ownsRow B 55 4 v n (flat encQ l)) (hN : l.length = n) (hi : i < n) (hn : n ≤ 900000000) :
    Calls Try.prog 43 #[v, .int .i64 i, .int .i64 ((i : Int) + 1)] w fun e w' => ∃ v', e = .returned v' ∧ w'.ownsRow B 55 4 v' (n - 1) (flat encQ (l.take i ++ l.drop (i + 1))) ∧ w.grownBy w' v.ownBlock ∧ v'.ownBlock = v.ownBlock := by
  rcases own_shape hown with ⟨_, h0⟩ | ⟨g, c, rfl, hgB, hnc⟩
  · omega
  · obtain ⟨AD, hAD⟩ : ∃ AD : Addr, AD = if c = i + 1 then ⟨g, 0, none⟩ else ⟨g, (i + 1) * 4, none⟩ := ⟨_, rfl⟩
    have hAD2 : AD = ⟨g, (i + 1) * 4, none⟩ ∨ n = i + 1 := by
      by_cases hc : c = i + 1
      · exact .inr (by omega)
      · rw [if_neg hc] at hAD; exact .inl hAD
    obtain ⟨row, hr1, hr2⟩ := run_del_Q hown hN hi AD hAD2
    obtain ⟨xs, hx1, hx2⟩ := hr2 w.drew rfl
    obtain ⟨w3, hcl, hown3, hg3⟩ := run_clear_Q (cc := c - (n - 1)) hx1 (i := n - 1) (by omega) 0
    rw [hx2] at hown3
    have hgr : w.grownBy w3 (some g) := ⟨hg3.os, hg3.tape, hg3.output, by have := hg3.size; simpa using this, fun k hk hne => by rw [hg3.block k (by simpa using hk) hne]; exact setRow_other _ _ _ _ (fun e => hne (by rw [e]))⟩
    have hcm : c ≤ 9223372036854775807 := by
      rcases hown.2 with ⟨e, _⟩ | ⟨g', cap, cur, e, _, _, _, hm, _, _⟩
      · cases e
      · injection e with _ _ e3; subst e3; simpa [maxLen] using hm
    have HO := Lib.hid hown3
    have HG := Lib.hid hgr
    have ha := fun cc => hr1 w.drew rfl 22 (n - (i + 1)) cc rfl
    have hne1 : ((i : Int) == (i : Int) + 1) = false := by simp; omega
    have hci : ¬ (c = n - 1) := by omega
    have hic : i ≤ c := by omega
    have hi2 : (i : Int) ≤ (i : Int) + 1 := by omega
    have hi3 : i + 1 ≤ c := by omega
    have hi4 : i + 1 ≤ n := by omega
    have hi5 : (0 : Int) ≤ (i : Int) + 1 := by omega
    have hi6 : (i : Int) + 1 ≤ (n : Int) := by omega
    have hn1 : n - (n - 1) = 1 := by omega
    have hb1 : ((n - 1 : Nat) : Int) ≤ (n : Int) := by omega
    have hb2 : ((n : Int) - 1) ≤ (n : Int) := by omega
    rw [hn1] at hcl
    have HA := Lib.hid ha
    have HCL := Lib.hid hcl
    clear hown hr1 hr2 hx1 hx2 hown3 hg3 hgr hAD2 ha hcl
    by_cases hcc : c = i + 1
    · rw [if_pos hcc] at hAD
      subst hAD; subst hcc
      obtain rfl : n = i + 1 := by omega
      rw [show i + 1 - (i + 1) = 0 by omega] at HA
      have HA2 := Lib.hid (HA.out 0)
      clear HA
      rw [show i + 1 - 1 = i by omega, show i + 1 - i = 1 by omega] at HCL
      go_enter Try.func43, Try.ntmps43
      go_wp2_with fail
      go_region_law (refine step_app_runR rfl _ _ 22 22 rfl (.slice (some ⟨g, 0, none⟩) i (i + 1)) (.slice (some ⟨g, 0, none⟩) 0 0) (by simp [Act.eval, Act.put]) (by simp [Act.eval, Act.put]) HA2.out ?_)
      have HCL2 := HCL.out
      go_wp2_with fail
      go_ret
      exact ⟨_, rfl, HO.out, HG.out, rfl⟩
    · rw [if_neg hcc] at hAD
      subst hAD
      go_enter Try.func43, Try.ntmps43
      go_wp2_with fail
      go_region_law (refine step_app_runR rfl _ _ 22 22 rfl (.slice (some ⟨g, 0, none⟩) i c) (.slice (some ⟨g, (i + 1) * 4, none⟩) (n - (i + 1)) (c - (i + 1))) (by simp [Act.eval, Act.put]) (by simp [Act.eval, Act.put]) (HA.out (c - (i + 1))) ?_)
      have HCL2 := HCL.out
      go_wp2_with fail
      go_ret
      exact ⟨_, rfl, HO.out, HG.out, rfl⟩
end Go.Proofs.Ytnngeaibdnnpoaa
