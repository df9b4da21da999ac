/- Votes: own rows written; copies; spoiling; trimming, at the reference. -/
import Derived.Test.YtffoglofijffpaaYh
namespace Go.Proofs.Ytffoglofijffpaa
open Go.RowKit
set_option linter.unusedSimpArgs false
set_option linter.unusedVariables false

theorem own_put {w : World} {B k n c g j : Nat} {t : TypeId} {xs : List Value} {u : Value} (h : w.ownsRow B t k (.slice (some ⟨g, 0, none⟩) n c) n xs) (hj : j < n * k) : (w.setCell ⟨g, j, none⟩ u).ownsRow B t k (.slice (some ⟨g, 0, none⟩) n c) n (xs.set j u) := by
  obtain ⟨h1, h2⟩ := h
  refine ⟨by simpa using h1, ?_⟩
  rcases h2 with ⟨e, _⟩ | ⟨g', cap, cur, e, hb, hg, hc, hm, hs, ht⟩
  · cases e
  · injection e with e1 e2 e3
    injection e1 with e1; injection e1 with e1
    subst e1; subst e3
    refine .inr ⟨g, c, cur.setIfInBounds j u, rfl, hb, ?_, hc, hm, by simpa using hs, ?_⟩
    · simp [World.setCell, Array.getElem?_modify, hg]
    · rw [Array.toList_setIfInBounds, ← ht]
      apply List.ext_getElem?
      intro q
      simp only [List.getElem?_take, List.getElem?_set, List.length_take]
      by_cases hq : q < n * k
      · simp only [hq, if_true]
        by_cases hqj : j = q
        · subst hqj
          have hcl : cur.toList.length = c * k := by simpa using hs
          have : n * k ≤ c * k := Nat.mul_le_mul_right _ hc
          simp [show j < cur.size by omega, hj]
          omega
        · simp [hqj]
      · have hqj : ¬ j = q := by omega
        simp [hq, hqj]
theorem own_get {w : World} {B k n c g : Nat} {t : TypeId} {xs : List Value} (h : w.ownsRow B t k (.slice (some ⟨g, 0, none⟩) n c) n xs) : (∀ j u, xs[j]? = some u → w.cell? ⟨g, j, none⟩ = some u) ∧ ∀ j, w.frozen? ⟨g, j, none⟩ = false := by
  refine ⟨fun j u hj => ?_, fun j => ?_⟩
  · have := World.ownsRow.cells h (g := g) rfl j u hj
    simpa [Addr.add_lit] using this
  · rcases h.2 with ⟨e, _⟩ | ⟨g', cap, cur, e, hb, hg, _⟩
    · cases e
    · injection e with e1 e2 e3
      injection e1 with e1; injection e1 with e1
      subst e1
      simp [World.frozen?, hg]
theorem own_shape {w : World} {B k n : Nat} {t : TypeId} {v : Value} {xs : List Value} (h : w.ownsRow B t k v n xs) : (v = .slice none 0 0 ∧ n = 0) ∨ ∃ g c, v = .slice (some ⟨g, 0, none⟩) n c ∧ B ≤ g ∧ n ≤ c := by
  rcases h.2 with h | ⟨g, cap, cur, rfl, hb, _, hc, _⟩
  · exact .inl h
  · exact .inr ⟨g, cap, rfl, hb, hc⟩
theorem flat_set3 (v : VoteD) : ∀ (l : List VoteD) (i : Nat), i < l.length → (((flat encV l).set (i * 3) (.int .i64 v.ro)).set (i * 3 + 1) (.int .i64 v.au)).set (i * 3 + 2) (.int .i64 v.di) = flat encV (l.set i v)
  | [], i, h => absurd h (by simp)
  | x :: l, 0, _ => by simp [flat, encV]
  | x :: l, i + 1, h => by
    have ih := flat_set3 v l i (by simpa using h)
    have e : ∀ (m : List VoteD), flat encV (x :: m) = .int .i64 x.ro :: .int .i64 x.au :: .int .i64 x.di :: flat encV m := fun m => by simp [flat, encV]
    rw [List.set_cons_succ, e, e, ← ih]
    rw [show (i + 1) * 3 = i * 3 + 3 by omega]
    rfl
theorem OwnV.put {w : World} {B n c g i : Nat} {l : List VoteD} {a b d : Int} (h : w.ownsRow B 67 3 (.slice (some ⟨g, 0, none⟩) n c) n (flat encV l)) (hl : l.length = n) (hi : i < n) :
    (((w.setCell ⟨g, i * 3, none⟩ (.int .i64 a)).setCell ⟨g, i * 3 + 1, none⟩ (.int .i64 b)).setCell ⟨g, i * 3 + 2, none⟩ (.int .i64 d)).ownsRow B 67 3 (.slice (some ⟨g, 0, none⟩) n c) n (flat encV (l.set i ⟨a, b, d⟩)) := by
  have := own_put (u := .int .i64 d) (own_put (u := .int .i64 b) (own_put (u := .int .i64 a) h (j := i * 3) (by omega)) (j := i * 3 + 1) (by omega)) (j := i * 3 + 2) (by omega)
  rw [flat_set3 ⟨a, b, d⟩ l i (by omega)] at this
  exact this
/-- append of votes to a row of one's own. -/
theorem wpList_appV {w : World} {ops : Array Oper} {rest : List Oper} {o : Oper} {a : Act} {Q : Exit → Act → World → Prop} (hgd : o.guard = none) (s x : Operand)
    (ho : o.op = .call { callee := .builtin .append, args := #[s, x], argTypes := #[51, 51] }) (hty : o.type = 51)
    (B : Nat) (v : Value) (l : List VoteD) (hs : a.eval s = v) (hown : OwnV w B v l) (vb off m c : Nat) (e : List VoteD) (hx : a.eval x = .slice (some ⟨vb, off, none⟩) m c) (hm : e.length = m) (hv : ∀ j u, (flat encV e)[j]? = some u → w.cell? ⟨vb, off + j, none⟩ = some u)
    (hlen : l.length + m ≤ 900000000) (hB : B ≤ w.heap.size)
    (h : ∀ v' w', OwnV w' B v' (l ++ e) → w.grownBy w' v.ownBlock → Below B w w' → (v'.ownBlock = v.ownBlock ∨ v'.ownBlock = some w.heap.size) → wpList Try.prog ops Q rest (a.put o.dst v') w') : wpList Try.prog ops Q (o :: rest) a w := by
  obtain ⟨v', w', hrun, h2, h3, h4, h5⟩ := run_app_Vote w B v l.length (flat encV l) hown vb off m c (flat encV e) (by rw [flat_len encV_len, hm]) hv (flat_oneCell encV_one e) (by omega) hB
  have hown' : OwnV w' B v' (l ++ e) := by unfold OwnV; rw [List.length_append, hm, flat_app]; exact h2
  exact Lib.wpList_append_run w hgd s x _ _ ho v _ hs hx v' w' (by rw [hty]; exact hrun) (h v' w' hown' h3 h4 h5)
theorem box_votes {w : World} {g : Nat} {v : VoteD} (h : BoxR w g [.int .i64 v.ro, .int .i64 v.au, .int .i64 v.di]) : ∀ j u, (flat encV [v])[j]? = some u → w.cell? ⟨g, 0 + j, none⟩ = some u := fun j u hj => by
  rw [Nat.zero_add]
  exact h.2 j u (by simpa [flat, encV] using hj)
theorem take_vth (l : List VoteD) (k : Nat) (h : k < l.length) : l.take (k + 1) = l.take k ++ [vth l k] := by
  rw [List.take_succ_eq_append_getElem h]; simp [vth, h]
set_option maxRecDepth 100000 in
set_option maxHeartbeats 1000000 in
theorem ref0_CopyVotes (A : Option Addr) (n c : Nat) (l : List VoteD) (w : World) (hl : VotesR w A n l) (hn : n ≤ 800000000) :
    Calls Try.prog 36 #[.slice A n c] w fun e w' => ∃ v, e = .returned v ∧ OwnV w' w.heap.size v l ∧ Below w.heap.size w w' := by
  have HL := Lib.hid hl
  have HN := Lib.hid hl.1
  clear hl
  go_enter Try.func36, Try.ntmps36
  go_wp2_with fail
  go_loopw [3, 4] (fun v i wr => ∃ j : Nat, j ≤ n ∧ i = .int .i64 j ∧ OwnV wr w.heap.size v (l.take j) ∧ Below w.heap.size w wr) (fun _ i _ => n - (intOf i).toNat)
  case atStart => exact ⟨0, Nat.zero_le _, rfl, OwnV.nil _ _, Below.refl _ _⟩
  case round =>
    obtain ⟨j, hj, rfl, hown, hbw⟩ := hrel
    by_cases hlt : j < n
    · obtain ⟨b, off, rfl, hb, hc⟩ := (HL.out.up hbw).at (by omega)
      obtain ⟨c0, c1, c2⟩ := hc j hlt
      clear hc
      have hlenj : (l.take j).length ≤ j := by simp; omega
      have hsz := hbw.size
      go_wp2_with (at_builtin; refine wpList_appV rfl (.tmp 11) (.tmp 16) rfl rfl (w.heap.size) u3 _ rfl (own_alloc hown _) _ 0 1 _ [vth l j] rfl rfl (box_votes (BoxR.new _ [.int .i64 (vth l j).ro, .int .i64 (vth l j).au, .int .i64 (vth l j).di] _)) (by omega) (le_alloc hsz) ?_; intro v1 w1 hown1 hg1 hbel1 hat1)
      (first | (go_round; (case rel => exact ⟨j + 1, by omega, by go_num, by rw [take_vth l j (by rw [HN.out]; exact hlt)]; exact hown1, Below.trans (bel_alloc hbw) hbel1⟩); (case measure => (simp [intOf] <;> omega))) | (go_roundw; (case rel => exact ⟨j + 1, by omega, by go_num, by rw [take_vth l j (by rw [HN.out]; exact hlt)]; exact hown1, Below.trans (bel_alloc hbw) hbel1⟩); (case measure => (simp [intOf] <;> omega))) | (refine ⟨?_, by simp [intOf] <;> omega⟩; (repeat apply Exists.intro); refine ⟨?rel, ?fr⟩; (case fr => ((repeat' apply And.intro) <;> rfl)); (case rel => exact ⟨j + 1, by omega, by go_num, by rw [take_vth l j (by rw [HN.out]; exact hlt)]; exact hown1, Below.trans (bel_alloc hbw) hbel1⟩)))
    · go_wp2_with fail
      go_ret
      have e : l.take j = l := List.take_of_length_le (by rw [HN.out]; omega)
      exact ⟨_, rfl, e ▸ hown, hbw⟩
def cutV (l : List VoteD) (low : Int) : List VoteD := l.filter fun v => decide (low < v.ro)
theorem cutV_yes {l : List VoteD} {low : Int} {k : Nat} (h : k < l.length) (hr : low < (vth l k).ro) : cutV (l.take (k + 1)) low = cutV (l.take k) low ++ [vth l k] := by
  unfold cutV; rw [take_vth l k h, List.filter_append]; simp [hr]
theorem cutV_no {l : List VoteD} {low : Int} {k : Nat} (h : k < l.length) (hr : ¬ low < (vth l k).ro) : cutV (l.take (k + 1)) low = cutV (l.take k) low := by
  unfold cutV; rw [take_vth l k h, List.filter_append]; simp [hr]
theorem cutV_le (l : List VoteD) (low : Int) (k : Nat) : (cutV (l.take k) low).length ≤ k := by
  have := List.length_filter_le (fun v : VoteD => decide (low < v.ro)) (l.take k)
  unfold cutV; simp at this; omega
set_option maxRecDepth 100000 in
set_option maxHeartbeats 1000000 in
theorem ref19_Trim (A : Option Addr) (n c : Nat) (l : List VoteD) (low : Int) (w : World) (hl : VotesR w A n l) (hn : n ≤ 800000000) :
    Calls Try.prog 46 #[.slice A n c, .int .i64 low] w fun e w' => ∃ v, e = .returned v ∧ OwnV w' w.heap.size v (cutV l low) ∧ Below w.heap.size w w' := by
  have HL := Lib.hid hl
  have HN := Lib.hid hl.1
  clear hl
  go_enter Try.func46, Try.ntmps46
  go_wp2_with fail
  go_loopw [5, 6] (fun v i wr => ∃ j : Nat, j ≤ n ∧ i = .int .i64 j ∧ OwnV wr w.heap.size v (cutV (l.take j) low) ∧ Below w.heap.size w wr) (fun _ i _ => n - (intOf i).toNat)
  case atStart => exact ⟨0, Nat.zero_le _, rfl, OwnV.nil _ _, Below.refl _ _⟩
  case round =>
    obtain ⟨j, hj, rfl, hown, hbw⟩ := hrel
    by_cases hlt : j < n
    · obtain ⟨b, off, rfl, hb, hc⟩ := (HL.out.up hbw).at (by omega)
      obtain ⟨c0, c1, c2⟩ := hc j hlt
      clear hc
      have hlenj := cutV_le l low j
      have hsz := hbw.size
      by_cases hr : low < (vth l j).ro
      · have hd : decide (low < (vth l j).ro) = true := by simpa using hr
        have HR := Lib.hid hr
        clear hr
        go_wp2_with (at_builtin; refine wpList_appV rfl (.tmp 20) (.tmp 25) rfl rfl (w.heap.size) u5 _ rfl (own_alloc hown _) _ 0 1 _ [vth l j] rfl rfl (box_votes (BoxR.new _ [.int .i64 (vth l j).ro, .int .i64 (vth l j).au, .int .i64 (vth l j).di] _)) (by omega) (le_alloc hsz) ?_; intro v1 w1 hown1 hg1 hbel1 hat1)
        (first | (go_round; (case rel => exact ⟨j + 1, by omega, by go_num, by rw [cutV_yes (by rw [HN.out]; exact hlt) HR.out]; exact hown1, Below.trans (bel_alloc hbw) hbel1⟩); (case measure => (simp [intOf] <;> omega))) | (go_roundw; (case rel => exact ⟨j + 1, by omega, by go_num, by rw [cutV_yes (by rw [HN.out]; exact hlt) HR.out]; exact hown1, Below.trans (bel_alloc hbw) hbel1⟩); (case measure => (simp [intOf] <;> omega))) | (refine ⟨?_, by simp [intOf] <;> omega⟩; (repeat apply Exists.intro); refine ⟨?rel, ?fr⟩; (case fr => ((repeat' apply And.intro) <;> rfl)); (case rel => exact ⟨j + 1, by omega, by go_num, by rw [cutV_yes (by rw [HN.out]; exact hlt) HR.out]; exact hown1, Below.trans (bel_alloc hbw) hbel1⟩)))
      · have hd : decide (low < (vth l j).ro) = false := by simpa using hr
        have HR := Lib.hid hr
        clear hr
        go_wp2_with fail
        (first | (go_round; (case rel => exact ⟨j + 1, by omega, by go_num, by rw [cutV_no (by rw [HN.out]; exact hlt) HR.out]; exact hown, hbw⟩); (case measure => (simp [intOf] <;> omega))) | (go_roundw; (case rel => exact ⟨j + 1, by omega, by go_num, by rw [cutV_no (by rw [HN.out]; exact hlt) HR.out]; exact hown, hbw⟩); (case measure => (simp [intOf] <;> omega))) | (refine ⟨?_, by simp [intOf] <;> omega⟩; (repeat apply Exists.intro); refine ⟨?rel, ?fr⟩; (case fr => ((repeat' apply And.intro) <;> rfl)); (case rel => exact ⟨j + 1, by omega, by go_num, by rw [cutV_no (by rw [HN.out]; exact hlt) HR.out]; exact hown, hbw⟩)))
    · go_wp2_with fail
      go_ret
      have e : l.take j = l := List.take_of_length_le (by rw [HN.out]; omega)
      rw [e] at hown
      exact ⟨_, rfl, hown, hbw⟩
set_option maxRecDepth 100000 in
set_option maxHeartbeats 2000000 in
theorem law0_Votes (v : Value) (l : List VoteD) (B : Nat) (w : World) (hown : OwnV w B v l) (hlen : l.length ≤ 1000000) (hB : B ≤ w.heap.size) :
    Calls Try.prog 39 #[v] w fun e w' => e = .returned (.tuple #[]) ∧ Below B w w' := by
  obtain ⟨n, hn⟩ : ∃ n, n = l.length := ⟨_, rfl⟩
  have hown2 : w.ownsRow B 67 3 v n (flat encV l) := by rw [hn]; exact hown
  rw [← hn] at hlen
  have HN := Lib.hid hn
  clear hown hn
  rcases own_shape hown2 with ⟨rfl, rfl⟩ | ⟨g, c, rfl, hgB, hnc⟩
  · have HO : Hid (OwnV w B (.slice none 0 0) []) := Lib.hid (OwnV.nil _ _)
    clear hown2
    go_enter Try.func39, Try.ntmps39
    go_wp2_with fail
    go_loop [2] (fun i => i = .int .i64 0) (fun _ => 0)
    case atStart => rfl
    case round =>
      obtain rfl := hrel
      go_wp2_with (at_builtin; refine wpList_appV rfl (.tmp 13) (.tmp 15) rfl rfl B _ _ rfl (own_alloc HO.out _) _ 0 1 _ [⟨0, 0, 0⟩] rfl rfl (box_votes (BoxR.new _ [.int .i64 0, .int .i64 0, .int .i64 0] _)) (by simp) (le_alloc hB) ?_; intro v1 w1 hown1 hg1 hbel1 hat1)
      go_end0
      exact ⟨rfl, Below.trans ((Below.refl _ _).alloc hB _) hbel1⟩
  · have HO := Lib.hid hown2
    clear hown2
    go_enter Try.func39, Try.ntmps39
    go_wp2_with fail
    go_loopw [2] (fun i wr => ∃ (k : Nat) (cur : List VoteD), k ≤ n ∧ i = .int .i64 k ∧ Hid (cur.length = n) ∧ Hid (wr.ownsRow B 67 3 (.slice (some ⟨g, 0, none⟩) n c) n (flat encV cur)) ∧ Below B w wr) (fun i _ => n - (intOf i).toNat)
    case atStart => exact ⟨0, l, by omega, rfl, Lib.hid HN.out.symm, HO, Below.refl _ _⟩
    case round =>
      obtain ⟨k, cur, hk, rfl, hcl, HC, hbw⟩ := hrel
      by_cases hlt : k < n
      · obtain ⟨g1, f1⟩ := own_get HC.out
        have hat : ∀ r u, r < 3 → (encV (vth cur k))[r]? = some u → wr.cell? ⟨g, k * 3 + r, none⟩ = some u := fun r u hr hu =>
          g1 _ u (by rw [flat_at encV_len cur k r (by rw [hcl.out]; exact hlt) hr]; exact hu)
        have c0 : wr.cell? ⟨g, k * 3, none⟩ = _ := hat 0 _ (by omega) rfl
        have c1 : wr.cell? ⟨g, k * 3 + 1, none⟩ = _ := hat 1 _ (by omega) rfl
        have c2 : wr.cell? ⟨g, k * 3 + 2, none⟩ = _ := hat 2 _ (by omega) rfl
        clear g1 hat
        go_wp2_with fail
        (first | (go_round; (case rel => exact ⟨k + 1, cur.set k ⟨-9, 0, 0⟩, by omega, by go_num, Lib.hid (by have q := hcl.out; simpa using q), Lib.hid (OwnV.put HC.out hcl.out hlt), ((hbw.setCell hgB _).setCell hgB _).setCell hgB _⟩); (case measure => (simp [intOf] <;> omega))) | (go_roundw; (case rel => exact ⟨k + 1, cur.set k ⟨-9, 0, 0⟩, by omega, by go_num, Lib.hid (by have q := hcl.out; simpa using q), Lib.hid (OwnV.put HC.out hcl.out hlt), ((hbw.setCell hgB _).setCell hgB _).setCell hgB _⟩); (case measure => (simp [intOf] <;> omega))) | (refine ⟨?_, by simp [intOf] <;> omega⟩; (repeat apply Exists.intro); refine ⟨?rel, ?fr⟩; (case fr => ((repeat' apply And.intro) <;> rfl)); (case rel => exact ⟨k + 1, cur.set k ⟨-9, 0, 0⟩, by omega, by go_num, Lib.hid (by have q := hcl.out; simpa using q), Lib.hid (OwnV.put HC.out hcl.out hlt), ((hbw.setCell hgB _).setCell hgB _).setCell hgB _⟩)))
      · have hsz := hbw.size
        have hov : OwnV wr B (.slice (some ⟨g, 0, none⟩) n c) cur := by unfold OwnV; rw [hcl.out]; exact HC.out
        have HV := Lib.hid hov
        clear hov
        go_wp2_with (at_builtin; refine wpList_appV rfl (.tmp 13) (.tmp 15) rfl rfl B _ cur rfl (own_alloc HV.out _) _ 0 1 _ [⟨0, 0, 0⟩] rfl rfl (box_votes (BoxR.new _ [.int .i64 0, .int .i64 0, .int .i64 0] _)) (by rw [hcl.out]; omega) (le_alloc (Nat.le_trans hB hsz)) ?_; intro v1 w1 hown1 hg1 hbel1 hat1)
        go_end0
        exact ⟨rfl, Below.trans (hbw.alloc (Nat.le_trans hB hsz) _) hbel1⟩
end Go.Proofs.Ytffoglofijffpaa
