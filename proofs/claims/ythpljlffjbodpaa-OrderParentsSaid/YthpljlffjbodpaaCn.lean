/- The reference's With: a number more, rising. -/
import Derived.Test.YthpljlffjbodpaaCm
namespace Go.Proofs.Ythpljlffjbodpaa
open Go.RowKit
set_option linter.unusedSimpArgs false
set_option linter.unusedVariables false

/-- append of nothing. -/
theorem wpList_app0 {w : World} {ops : Array Oper} {rest : List Oper} {o : Oper} {a : Act} {Q : Exit → Act → World → Prop} (hgd : o.guard = none) (s x : Operand)
    (ho : o.op = .call { callee := .builtin .append, args := #[s, x], argTypes := #[25, 25] })
    (g n cap : Nat) (hs : a.eval s = .slice (some ⟨g, 0, none⟩) n cap) (hnc : n ≤ cap) (xa : Option Addr) (c : Nat) (hx : a.eval x = .slice xa 0 c)
    (h : wpList Try.prog ops Q rest (a.put o.dst (.slice (some ⟨g, 0, none⟩) n cap)) w) : wpList Try.prog ops Q (o :: rest) a w := by
  obtain ⟨i0, hi, hz, hz1, hz2⟩ := info_parts int_info
  refine wpList_plain hgd fun K hK => ?_
  have hrun : (Builtin.append_ #[25, 25] o.type #[.slice (some ⟨g, 0, none⟩) n cap, .slice xa 0 c]).run Try.prog w = .ok (.slice (some ⟨g, 0, none⟩) n cap) w := by
    cases xa <;> simp [Builtin.append_, run_underlying Try.underlying25, sizeOf, typeInfo, hi, Builtin.lenOf, Builtin.firstCells, loadCells, loadCellsFrom, hnc, storeCells]
  unfold Oper.wp execOp
  simp only [ho, resolve, invoke, builtin, Sem.run_bind, Sem.run_pure, Result.andThen_ok, List.map_toArray, List.map_cons, List.map_nil, hs, hx, hrun]
  exact hK _ _ h
theorem take_rises {l : List Int} {x : Int} {i : Nat} (hr : Rises l) (hi : i ≤ l.length) (h1 : ∀ j, j < i → nth l j < x) (h2 : i < l.length → x < nth l i) : Rises (l.take i ++ [x] ++ l.drop i) := by
  have hlen : (l.take i).length = i := by simp; omega
  have e : ∀ j, nth (l.take i ++ [x] ++ l.drop i) j = if j < i then nth l j else if j = i then x else nth l (j - 1) := fun j => by
    unfold nth
    simp only [List.getD_eq_getElem?_getD]
    rw [List.append_assoc]
    by_cases a1 : j < i
    · rw [if_pos a1, List.getElem?_append_left (by omega), List.getElem?_take, if_pos a1]
    · rw [if_neg a1, List.getElem?_append_right (by omega), hlen]
      by_cases a2 : j = i
      · subst a2; simp
      · rw [if_neg a2, List.getElem?_append_right (by simp; omega), List.getElem?_drop]
        simp only [List.length_cons, List.length_nil]
        rw [show i + (j - i - (0 + 1)) = j - 1 by omega]
  intro j hj
  simp only [List.length_append, List.length_drop, List.length_cons, List.length_nil, hlen] at hj
  rw [e, e]
  by_cases a1 : j + 1 < i
  · rw [if_pos (by omega), if_pos a1]; exact hr j (by omega)
  · by_cases a2 : j < i
    · rw [if_pos a2, if_neg a1, if_pos (by omega)]; exact h1 j a2
    · by_cases a3 : j = i
      · subst a3; rw [if_neg a2, if_pos rfl, if_neg a1, if_neg (by omega)]; exact h2 (by omega)
      · rw [if_neg a2, if_neg a3, if_neg a1, if_neg (by omega)]
        have := hr (j - 1) (by omega)
        rwa [show j - 1 + 1 = j + 1 - 1 by omega] at this
theorem OwnI.cap {w : World} {B : Nat} {A : Option Addr} {n c : Nat} {l : List Int} (h : OwnI w B (.slice A n c) l) : n ≤ c ∧ c ≤ 9223372036854775807 := by
  rcases h.2 with ⟨e, _⟩ | ⟨g, cap, cur, e, hb, hgg, h1, h2, _⟩
  · injection e with e1 e2 e3; omega
  · injection e with e1 e2 e3; simp only [maxLen] at h2; omega
theorem IntsR.taken {w : World} {A : Option Addr} {n : Nat} {l : List Int} (h : IntsR w A n l) {i : Nat} (hi : i ≤ n) : IntsR w A i (l.take i) := by
  refine ⟨by simp [h.1]; omega, by have := h.2.1; omega, fun hn => ?_⟩
  obtain ⟨b, off, e, hb, hc⟩ := h.2.2 (by omega)
  exact ⟨b, off, e, hb, fun j hj => by rw [hc j (by omega)]; simp [nth, List.getElem?_take, hj]⟩
theorem IntsR.droppedAt {w : World} {b n : Nat} {l : List Int} (h : IntsR w (some ⟨b, 0, none⟩) n l) {i j : Nat} (hj : j < n - i) : w.cell? ⟨b, i + j, none⟩ = some (.int .i64 (nth (l.drop i) j)) := by
  obtain ⟨b', off, e, hb, hc⟩ := h.2.2 (by omega)
  injection e with e; injection e with e1 e2 e3
  subst e1; subst e2
  have := hc (i + j) (by omega)
  rw [Nat.zero_add] at this
  rw [this]; simp [nth]
def WithE (l : List Int) (x : Int) (B : Nat) (v : Value) (w : World) (e : Ending) (w' : World) : Prop :=
  ∃ v' l', e = .returned v' ∧ OwnI w' B v' l' ∧ Rises l' ∧ (∀ y, hasS l' y = (hasS l y || decide (y = x))) ∧ l'.length ≤ l.length + 1 ∧ Below w.heap.size w w' ∧ (v'.ownBlock = v.ownBlock ∨ ∃ g, v'.ownBlock = some g ∧ w.heap.size ≤ g)
theorem WithE.new {l : List Int} {x : Int} {B : Nat} {v v3 : Value} {w w3 : World} {i : Nat} (hown : OwnI w3 w.heap.size v3 (l.take i ++ [x] ++ l.drop i)) (hB : B ≤ w.heap.size) (hr : Rises l) (hi : i ≤ l.length) (h1 : ∀ j, j < i → nth l j < x) (h2 : i < l.length → x < nth l i) (hb : Below w.heap.size w w3) : WithE l x B v w (.returned v3) w3 := by
  refine ⟨v3, _, rfl, hown.mono hB, take_rises hr hi h1 h2, fun y => ?_, ?_, hb, ?_⟩
  · rw [Bool.eq_iff_iff, Bool.or_eq_true, hasS_iff, hasS_iff, decide_eq_true_eq]
    have e : y ∈ l ↔ y ∈ l.take i ∨ y ∈ l.drop i := by rw [← List.mem_append, List.take_append_drop]
    rw [e]
    simp only [List.mem_append, List.mem_singleton]
    constructor <;> intro h <;> rcases h with (h | h) | h <;> simp [h]
  · simp; omega
  · rcases hown.shape with ⟨_, e⟩ | ⟨g, c, rfl, hg⟩
    · simp at e
    · exact .inr ⟨g, rfl, hg⟩
theorem hasS_ne {l : List Int} {x : Int} (h : hasS l x = false) {i : Nat} (hi : i < l.length) : nth l i ≠ x := fun e => by
  have : x ∈ l := by rw [← e]; simp [nth, hi]
  rw [(hasS_iff l x).2 this] at h; cases h
set_option maxRecDepth 100000 in
set_option maxHeartbeats 2000000 in
theorem ref0_With (v : Value) (l : List Int) (x : Int) (B : Nat) (w : World) (hown : OwnI w B v l) (hr : Rises l) (hlen : l.length ≤ 100000) (hB : B ≤ w.heap.size) :
    Calls Try.prog 36 #[v, .int .i64 x] w fun e w' => WithE l x B v w e w' := by
  have HR := Lib.hid hr
  cases hh : hasS l x
  case true =>
    obtain ⟨A, c, rfl, hint, _⟩ := hown.ints (by omega)
    have HI := Lib.hid hint
    have HO := Lib.hid hown
    have hd : decide (0 ≤ inS l x) = true := hh
    have HH := Lib.hid hh
    obtain ⟨n, hn⟩ : ∃ n, n = l.length := ⟨_, rfl⟩
    rw [← hn] at HI ⊢
    have HN := Lib.hid hn
    clear hint hh hown hr hn
    go_enter Try.func36, Try.ntmps36
    go_wp2_with fail
    refine (ref0_In A n c l x _ HI.out).mono ?_
    rintro e w' ⟨rfl, rfl⟩
    go_wp2_with fail
    go_ret
    refine ⟨_, l, rfl, by rw [HN.out]; exact HO.out, HR.out, fun y => ?_, by omega, Below.refl _ _, .inl rfl⟩
    by_cases hy : y = x
    · subst hy; rw [HH.out]; rfl
    · simp [hy]
  case false =>
    have hd : decide (0 ≤ inS l x) = false := hh
    have HH := Lib.hid hh
    clear hh
    rcases hown.shape with ⟨rfl, rfl⟩ | ⟨b, c, rfl, hbB⟩
    · clear hown hr
      go_enter Try.func36, Try.ntmps36
      go_wp2_with fail
      refine (ref0_In none 0 0 [] x _ (IntsR.nil _ _)).mono ?_
      rintro e w' ⟨rfl, rfl⟩
      go_wp2_with fail
      go_loop [5] (fun ix => ix = .int .i64 0) (fun ix => 0)
      case atStart => exact rfl
      case round =>
        subst hrel
        go_wp2_with fail
        refine (ref0_CopyNumbers none 0 0 [] _ (IntsR.nil _ _) (by omega)).mono ?_
        rintro e w1 ⟨v1, rfl, hown1, hb1⟩
        have hsz1 := hb1.size
        go_wp2_with (first
          | (at_builtin; refine wpList_app1 rfl (.tmp 29) (.tmp 31) rfl w.heap.size v1 [] rfl (hown1.alloc _) _ x rfl (cell0_alloc _ _ _) (by simp) (le_alloc hsz1) ?_; intro v2 w2 hown2 hg2 hbel2 hat2; rcases hown2.shape with ⟨_, e2⟩ | ⟨g2, c2, rfl, hg3⟩; (exact absurd e2 (by simp)); have hcap2 := hown2.cap)
          | (at_builtin; refine wpList_app0 rfl (.tmp 33) (.tmp 36) rfl g2 _ c2 rfl hcap2.1 none _ rfl ?_))
        go_ret
        exact WithE.new (i := 0) (by simpa using hown2) hB HR.out (Nat.le_refl _) (fun j hj => by omega) (fun h => absurd h (by simp)) ((bel_alloc hb1).trans hbel2)
    · have hcap := hown.cap
      have hint : IntsR w (some ⟨b, 0, none⟩) l.length l := by
        obtain ⟨A, c', e, hint, _⟩ := hown.ints (by omega)
        injection e with e1 e2 e3
        rw [e1]; exact hint
      have HI := Lib.hid hint
      have HO := Lib.hid hown
      obtain ⟨n, hn⟩ : ∃ n, n = l.length := ⟨_, rfl⟩
      rw [← hn] at HI hcap hlen ⊢
      have HN := Lib.hid hn
      clear hint hown hr hn
      go_enter Try.func36, Try.ntmps36
      go_wp2_with fail
      refine (ref0_In _ n c l x _ HI.out).mono ?_
      rintro e w' ⟨rfl, rfl⟩
      go_wp2_with fail
      go_loop [5] (fun ix => ∃ i : Nat, i ≤ n ∧ ix = .int .i64 i ∧ Hid (∀ j, j < i → nth l j < x)) (fun ix => n - (intOf ix).toNat)
      case atStart => exact ⟨0, Nat.zero_le _, rfl, Lib.hid (fun j hj => by omega)⟩
      case round =>
        obtain ⟨i, hi, rfl, hlt⟩ := hrel
        by_cases h1 : i < n
        · obtain ⟨b', off', e', hb, hc⟩ := HI.out.2.2 (by omega)
          injection e' with e'; injection e' with e1 e2 e3
          subst e1; subst e2
          have hci := hc i h1
          rw [Nat.zero_add] at hci
          obtain ⟨z, hz⟩ : ∃ z, z = nth l i := ⟨_, rfl⟩
          rw [← hz] at hci
          have HZ := Lib.hid hz
          clear hc hz
          by_cases h2 : z < x
          · have hnx : ∀ j, j < i + 1 → nth l j < x := fun j hj => by
              rcases Nat.lt_or_ge j i with h | h
              · exact hlt.out j h
              · have e : j = i := by omega
                subst e
                rw [← HZ.out]
                exact h2
            have HNX := Lib.hid hnx
            clear hnx
            go_wp2_with fail
            (first | (go_round; (case rel => exact ⟨i + 1, by omega, by go_num, HNX⟩); (case measure => (simp [intOf] <;> omega))) | (go_roundw; (case rel => exact ⟨i + 1, by omega, by go_num, HNX⟩); (case measure => (simp [intOf] <;> omega))) | (refine ⟨?_, by simp [intOf] <;> omega⟩; (repeat apply Exists.intro); refine ⟨?rel, ?fr⟩; (case fr => ((repeat' apply And.intro) <;> rfl)); (case rel => exact ⟨i + 1, by omega, by go_num, HNX⟩)))
          · have hne := hasS_ne HH.out (i := i) (by rw [← HN.out]; exact h1)
            have hxz : x < nth l i := by rw [← HZ.out] at hne ⊢; omega
            have HXZ := Lib.hid hxz
            have hcne : ¬ c = i := by omega
            clear hne hxz
            go_wp2_with fail
            refine (ref0_CopyNumbers _ i _ (l.take i) _ (HI.out.taken hi) (by omega)).mono ?_
            rintro e w1 ⟨v1, rfl, hown1, hb1⟩
            have hsz1 := hb1.size
            have htl : (l.take i).length = i := by rw [List.length_take, ← HN.out]; omega
            have HTL := Lib.hid htl
            clear htl
            go_wp2_with (first
              | (at_builtin; refine wpList_app1 rfl (.tmp 29) (.tmp 31) rfl w.heap.size v1 (l.take i) rfl (hown1.alloc _) _ x rfl (cell0_alloc _ _ _) (by rw [HTL.out]; omega) (le_alloc hsz1) ?_; intro v2 w2 hown2 hg2 hbel2 hat2; have hbw2 : Below w.heap.size w w2 := (bel_alloc hb1).trans hbel2)
              | (at_builtin; refine wpList_appN rfl (.tmp 33) (.tmp 36) rfl w.heap.size v2 (l.take i ++ [x]) rfl hown2 b i (n - i) (c - i) (l.drop i) rfl (by rw [List.length_drop, ← HN.out]) (fun j hj => ?_) (by rw [List.length_append, HTL.out]; simp; omega) hbw2.size ?_; rotate_left; intro v3 w3 hown3 hg3 hbel3 hat3))
            · go_ret
              exact WithE.new (i := i) hown3 hB HR.out (by rw [← HN.out]; exact hi) hlt.out (fun _ => HXZ.out) (hbw2.trans hbel3)
            · exact ((HI.out.up hbw2).droppedAt hj)
        · have hin : i = n := by omega
          subst hin
          have htl : (l.take i).length = i := by rw [List.length_take, ← HN.out]; omega
          have HTL := Lib.hid htl
          clear htl
          by_cases hcn : c = i
          all_goals
            go_wp2_with fail
            refine (ref0_CopyNumbers _ i _ (l.take i) _ (HI.out.taken hi) (by omega)).mono ?_
            rintro e w1 ⟨v1, rfl, hown1, hb1⟩
            have hsz1 := hb1.size
            go_wp2_with (first
              | (at_builtin; refine wpList_app1 rfl (.tmp 29) (.tmp 31) rfl w.heap.size v1 (l.take i) rfl (hown1.alloc _) _ x rfl (cell0_alloc _ _ _) (by rw [HTL.out]; omega) (le_alloc hsz1) ?_; intro v2 w2 hown2 hg2 hbel2 hat2; rcases hown2.shape with ⟨_, e2⟩ | ⟨g2, c2, e3, hg3⟩; (exact absurd e2 (by simp)); (obtain ⟨n2, hn2⟩ : ∃ n2, n2 = (l.take i ++ [x]).length := ⟨_, rfl⟩); rw [← hn2] at e3; clear hn2; subst e3; have hcap2 := hown2.cap; have hbw2 : Below w.heap.size w w2 := (bel_alloc hb1).trans hbel2)
              | (at_builtin; refine wpList_app0 rfl (.tmp 33) (.tmp 36) rfl g2 _ c2 rfl hcap2.1 _ _ rfl ?_))
            go_ret
            exact WithE.new (i := i) (by rw [List.drop_eq_nil_of_le (by rw [← HN.out]; exact Nat.le_refl _), List.append_nil]; exact hown2) hB HR.out (by rw [← HN.out]; exact hi) hlt.out (fun h => absurd h (by rw [← HN.out]; omega)) hbw2
end Go.Proofs.Ythpljlffjbodpaa
