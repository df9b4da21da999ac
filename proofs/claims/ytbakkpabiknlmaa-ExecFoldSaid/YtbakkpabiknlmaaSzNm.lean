/- Tables: copies, the same; transactions, batches, texts: how they lie; an asking of droverlaw22. -/
import Derived.Test.YtbakkpabiknlmaaSzNh
namespace Go.Proofs.Ytbakkpabiknlmaa
open Go.RowKit
set_option linter.unusedSimpArgs false
set_option linter.unusedVariables false

theorem take_pth (l : List PairD) (k : Nat) (h : k < l.length) : l.take (k + 1) = l.take k ++ [pth l k] := by
  rw [List.take_succ_eq_append_getElem h]; simp [pth, h]
theorem wpList_appP {w : World} {ops : Array Oper} {rest : List Oper} {o : Oper} {a : Act} {Q : Exit → Act → World → Prop} (hgd : o.guard = none) (s x : Operand)
    (ho : o.op = .call { callee := .builtin .append, args := #[s, x], argTypes := #[22, 22] }) (hty : o.type = 22)
    (B : Nat) (v : Value) (l : List PairD) (hs : a.eval s = v) (hown : OwnP w B v l) (vb off m c : Nat) (e : List PairD) (hx : a.eval x = .slice (some ⟨vb, off, none⟩) m c) (hm : e.length = m) (hv : ∀ j u, (flat encP e)[j]? = some u → w.cell? ⟨vb, off + j, none⟩ = some u)
    (hlen : l.length + m ≤ 900000000) (hB : B ≤ w.heap.size)
    (h : ∀ v' w', OwnP w' B v' (l ++ e) → w.grownBy w' v.ownBlock → Below B w w' → (v'.ownBlock = v.ownBlock ∨ v'.ownBlock = some w.heap.size) → wpList Try.prog ops Q rest (a.put o.dst v') w') : wpList Try.prog ops Q (o :: rest) a w := by
  obtain ⟨v', w', hrun, h2, h3, h4, h5⟩ := run_app_Pair w B v l.length (flat encP l) hown vb off m c (flat encP e) (by rw [flat_len encP_len, hm]) hv (flat_oneCell encP_one e) (by omega) hB
  have hown' : OwnP w' B v' (l ++ e) := by unfold OwnP; rw [List.length_append, hm, flat_app]; exact h2
  exact Lib.wpList_append_run w hgd s x _ _ ho v _ hs hx v' w' (by rw [hty]; exact hrun) (h v' w' hown' h3 h4 h5)
theorem box_P {w : World} {g : Nat} {p : PairD} (h : BoxR w g (encP p)) : ∀ j u, (flat encP [p])[j]? = some u → w.cell? ⟨g, 0 + j, none⟩ = some u := fun j u hj => by
  rw [Nat.zero_add]
  exact h.2 j u (by simpa [flat] using hj)
theorem take_ath (l : List AcctD) (k : Nat) (h : k < l.length) : l.take (k + 1) = l.take k ++ [ath l k] := by
  rw [List.take_succ_eq_append_getElem h]; simp [ath, h]
theorem wpList_appA {w : World} {ops : Array Oper} {rest : List Oper} {o : Oper} {a : Act} {Q : Exit → Act → World → Prop} (hgd : o.guard = none) (s x : Operand)
    (ho : o.op = .call { callee := .builtin .append, args := #[s, x], argTypes := #[23, 23] }) (hty : o.type = 23)
    (B : Nat) (v : Value) (l : List AcctD) (hs : a.eval s = v) (hown : OwnA w B v l) (vb off m c : Nat) (e : List AcctD) (hx : a.eval x = .slice (some ⟨vb, off, none⟩) m c) (hm : e.length = m) (hv : ∀ j u, (flat encA e)[j]? = some u → w.cell? ⟨vb, off + j, none⟩ = some u)
    (hlen : l.length + m ≤ 900000000) (hB : B ≤ w.heap.size)
    (h : ∀ v' w', OwnA w' B v' (l ++ e) → w.grownBy w' v.ownBlock → Below B w w' → (v'.ownBlock = v.ownBlock ∨ v'.ownBlock = some w.heap.size) → wpList Try.prog ops Q rest (a.put o.dst v') w') : wpList Try.prog ops Q (o :: rest) a w := by
  obtain ⟨v', w', hrun, h2, h3, h4, h5⟩ := run_app_Acct w B v l.length (flat encA l) hown vb off m c (flat encA e) (by rw [flat_len encA_len, hm]) hv (flat_oneCell encA_one e) (by omega) hB
  have hown' : OwnA w' B v' (l ++ e) := by unfold OwnA; rw [List.length_append, hm, flat_app]; exact h2
  exact Lib.wpList_append_run w hgd s x _ _ ho v _ hs hx v' w' (by rw [hty]; exact hrun) (h v' w' hown' h3 h4 h5)
theorem box_A {w : World} {g : Nat} {p : AcctD} (h : BoxR w g (encA p)) : ∀ j u, (flat encA [p])[j]? = some u → w.cell? ⟨g, 0 + j, none⟩ = some u := fun j u hj => by
  rw [Nat.zero_add]
  exact h.2 j u (by simpa [flat] using hj)
set_option maxRecDepth 100000 in
set_option maxHeartbeats 1000000 in
theorem ref0_CopyPairs (A : Option Addr) (n c : Nat) (l : List PairD) (w : World) (hl : PairsR w A n l) (hn : n ≤ 800000000) :
    Calls Try.prog 36 #[.slice A n c] w fun e w' => ∃ v, e = .returned v ∧ OwnP w' w.heap.size v l ∧ Below w.heap.size w w' := by
  have HL := Lib.hid hl
  have HN := Lib.hid hl.1
  clear hl
  go_enter Try.func36, Try.ntmps36
  go_wp2_with fail
  go_loopw [3, 4] (fun v i wr => ∃ j : Nat, j ≤ n ∧ i = .int .i64 j ∧ OwnP wr w.heap.size v (l.take j) ∧ Below w.heap.size w wr) (fun _ i _ => n - (intOf i).toNat)
  case atStart => exact ⟨0, Nat.zero_le _, rfl, OwnP.nil _ _, Below.refl _ _⟩
  case round =>
    obtain ⟨j, hj, rfl, hown, hbw⟩ := hrel
    by_cases hlt : j < n
    · obtain ⟨b, off, rfl, hb, hc⟩ := (HL.out.up hbw).at (by omega)
      obtain ⟨c0, c1⟩ := hc j hlt
      clear hc
      have hlenj : (l.take j).length ≤ j := by simp; omega
      have hsz := hbw.size
      go_wp2_with (at_builtin; refine wpList_appP rfl (.tmp 11) (.tmp 16) rfl rfl (w.heap.size) u3 _ rfl (own_alloc hown _) _ 0 1 _ [pth l j] rfl rfl (box_P (BoxR.new _ (encP (pth l j)) _)) (by omega) (le_alloc hsz) ?_; intro v1 w1 hown1 hg1 hbel1 hat1)
      (first | (go_round; (case rel => exact ⟨j + 1, by omega, by go_num, by rw [take_pth l j (by rw [HN.out]; exact hlt)]; exact hown1, Below.trans (bel_alloc hbw) hbel1⟩); (case measure => (simp [intOf] <;> omega))) | (go_roundw; (case rel => exact ⟨j + 1, by omega, by go_num, by rw [take_pth l j (by rw [HN.out]; exact hlt)]; exact hown1, Below.trans (bel_alloc hbw) hbel1⟩); (case measure => (simp [intOf] <;> omega))) | (refine ⟨?_, by simp [intOf] <;> omega⟩; (repeat apply Exists.intro); refine ⟨?rel, ?fr⟩; (case fr => ((repeat' apply And.intro) <;> rfl)); (case rel => exact ⟨j + 1, by omega, by go_num, by rw [take_pth l j (by rw [HN.out]; exact hlt)]; exact hown1, Below.trans (bel_alloc hbw) hbel1⟩)))
    · go_wp2_with fail
      go_ret
      have e : l.take j = l := List.take_of_length_le (by rw [HN.out]; omega)
      exact ⟨_, rfl, e ▸ hown, hbw⟩
set_option maxRecDepth 100000 in
set_option maxHeartbeats 2000000 in
theorem ref0_EqPairs (A : Option Addr) (n c : Nat) (A' : Option Addr) (n' c' : Nat) (l : List PairD) (w : World) (hl : PairsR w A n l) (hl' : PairsR w A' n' l) : Calls Try.prog 42 #[.slice A n c, .slice A' n' c'] w fun e w' => e = .returned (.bool true) ∧ Below w.heap.size w w' := by
  have hnn : n' = n := by rw [← hl.1, ← hl'.1]
  subst hnn
  have HL := Lib.hid hl
  have HL' := Lib.hid hl'
  have hnn : n' ≤ 9223372036854775807 := hl.2.2.1
  clear hl hl'
  go_enter Try.func42, Try.ntmps42
  go_wp2_with fail
  go_loopw [5] (fun ix wr => ∃ k : Nat, k ≤ n' ∧ ix = .int .i64 k ∧ Below w.heap.size w wr) (fun ix _ => n' - (intOf ix).toNat)
  case atStart => exact ⟨0, Nat.zero_le _, rfl, Below.refl _ _⟩
  case round =>
    obtain ⟨k, hk, rfl, hbw⟩ := hrel
    (obtain ⟨wk, hwk⟩ : ∃ x, x = wr := ⟨_, rfl⟩); subst hwk
    by_cases hlt : k < n'
    · obtain ⟨b, off, rfl, hb, hc⟩ := (HL.out.up hbw).at (by omega)
      obtain ⟨b', off', rfl, hb', hc'⟩ := (HL'.out.up hbw).at (by omega)
      obtain ⟨c0, c1⟩ := hc k hlt
      obtain ⟨d0, d1⟩ := hc' k hlt
      clear hc hc'
      go_wp2_with fail
      refine wp_region_fam (by kernel_rfl) (by kernel_rfl) (fun ι F hne hF hcl => ?_)
      have hcF0 := fun n o => (bcell (hF n)).1 (b) o (by first | (simp; done) | (simp; omega) | omega)
      have hcF1 := fun n o => (bcell (hF n)).1 (b') o (by first | (simp; done) | (simp; omega) | omega)
      have HF := Lib.hid hF; clear hF
      have HC := Lib.hid hcl; clear hcl
      repeat (any_goals (first
       | go_big_quiet_step (first | (fail))
       | (refine wpQuiet_guard _ _ _ rfl rfl ?_; (fail_if_success (intro b' hb; have h2 := hb.symm; have : b' = true := h2.trans (by with_reducible rfl))); (fail_if_success (intro b' hb; have h2 := hb.symm; have : b' = false := h2.trans (by with_reducible rfl))); intro b' hb; simp only [hb]; cases b' <;> (try simp only [Bool.not_eq_true', Bool.not_eq_false', decide_eq_true_eq, decide_eq_false_iff_not, Int.not_lt, Int.not_le, Bool.and_eq_true, Bool.or_eq_true, Bool.or_eq_false_iff, beq_iff_eq, beq_eq_false_iff_ne, Int.natCast_pos] at hb))))
      all_goals (refine wpQuiet_nil ?_; intro nq)
      have hFwf := HF.out nq
      clear HF HC hne
      generalize F nq = wf at *
      go_wp2_with fail
      (first | (go_round; (case rel => exact ⟨k + 1, by omega, by go_num, bel_trans hbw hFwf⟩); (case measure => (simp [intOf] <;> omega))) | (go_roundw; (case rel => exact ⟨k + 1, by omega, by go_num, bel_trans hbw hFwf⟩); (case measure => (simp [intOf] <;> omega))) | (refine ⟨?_, by simp [intOf] <;> omega⟩; (repeat apply Exists.intro); refine ⟨?rel, ?fr⟩; (case fr => ((repeat' apply And.intro) <;> rfl)); (case rel => exact ⟨k + 1, by omega, by go_num, bel_trans hbw hFwf⟩)))
    · go_wp2_with fail
      go_ret
      exact ⟨rfl, hbw⟩
set_option maxRecDepth 100000 in
set_option maxHeartbeats 1000000 in
theorem ref0_CopyAccounts (A : Option Addr) (n c : Nat) (l : List AcctD) (w : World) (hl : AcctsR w A n l) (hn : n ≤ 800000000) :
    Calls Try.prog 37 #[.slice A n c] w fun e w' => ∃ v, e = .returned v ∧ OwnA w' w.heap.size v l ∧ Below w.heap.size w w' := by
  have HL := Lib.hid hl
  have HN := Lib.hid hl.1
  clear hl
  go_enter Try.func37, Try.ntmps37
  go_wp2_with fail
  go_loopw [3, 4] (fun v i wr => ∃ j : Nat, j ≤ n ∧ i = .int .i64 j ∧ OwnA wr w.heap.size v (l.take j) ∧ Below w.heap.size w wr) (fun _ i _ => n - (intOf i).toNat)
  case atStart => exact ⟨0, Nat.zero_le _, rfl, OwnA.nil _ _, Below.refl _ _⟩
  case round =>
    obtain ⟨j, hj, rfl, hown, hbw⟩ := hrel
    by_cases hlt : j < n
    · obtain ⟨b, off, rfl, hb, hc⟩ := (HL.out.up hbw).at (by omega)
      obtain ⟨c0, c1⟩ := hc j hlt
      clear hc
      have hlenj : (l.take j).length ≤ j := by simp; omega
      have hsz := hbw.size
      go_wp2_with (at_builtin; refine wpList_appA rfl (.tmp 11) (.tmp 16) rfl rfl (w.heap.size) u3 _ rfl (own_alloc hown _) _ 0 1 _ [ath l j] rfl rfl (box_A (BoxR.new _ (encA (ath l j)) _)) (by omega) (le_alloc hsz) ?_; intro v1 w1 hown1 hg1 hbel1 hat1)
      (first | (go_round; (case rel => exact ⟨j + 1, by omega, by go_num, by rw [take_ath l j (by rw [HN.out]; exact hlt)]; exact hown1, Below.trans (bel_alloc hbw) hbel1⟩); (case measure => (simp [intOf] <;> omega))) | (go_roundw; (case rel => exact ⟨j + 1, by omega, by go_num, by rw [take_ath l j (by rw [HN.out]; exact hlt)]; exact hown1, Below.trans (bel_alloc hbw) hbel1⟩); (case measure => (simp [intOf] <;> omega))) | (refine ⟨?_, by simp [intOf] <;> omega⟩; (repeat apply Exists.intro); refine ⟨?rel, ?fr⟩; (case fr => ((repeat' apply And.intro) <;> rfl)); (case rel => exact ⟨j + 1, by omega, by go_num, by rw [take_ath l j (by rw [HN.out]; exact hlt)]; exact hown1, Below.trans (bel_alloc hbw) hbel1⟩)))
    · go_wp2_with fail
      go_ret
      have e : l.take j = l := List.take_of_length_le (by rw [HN.out]; omega)
      exact ⟨_, rfl, e ▸ hown, hbw⟩
set_option maxRecDepth 100000 in
set_option maxHeartbeats 2000000 in
theorem ref0_EqAccounts (A : Option Addr) (n c : Nat) (A' : Option Addr) (n' c' : Nat) (l : List AcctD) (w : World) (hl : AcctsR w A n l) (hl' : AcctsR w A' n' l) : Calls Try.prog 43 #[.slice A n c, .slice A' n' c'] w fun e w' => e = .returned (.bool true) ∧ Below w.heap.size w w' := by
  have hnn : n' = n := by rw [← hl.1, ← hl'.1]
  subst hnn
  have HL := Lib.hid hl
  have HL' := Lib.hid hl'
  have hnn : n' ≤ 9223372036854775807 := hl.2.2.1
  clear hl hl'
  go_enter Try.func43, Try.ntmps43
  go_wp2_with fail
  go_loopw [5] (fun ix wr => ∃ k : Nat, k ≤ n' ∧ ix = .int .i64 k ∧ Below w.heap.size w wr) (fun ix _ => n' - (intOf ix).toNat)
  case atStart => exact ⟨0, Nat.zero_le _, rfl, Below.refl _ _⟩
  case round =>
    obtain ⟨k, hk, rfl, hbw⟩ := hrel
    (obtain ⟨wk, hwk⟩ : ∃ x, x = wr := ⟨_, rfl⟩); subst hwk
    by_cases hlt : k < n'
    · obtain ⟨b, off, rfl, hb, hc⟩ := (HL.out.up hbw).at (by omega)
      obtain ⟨b', off', rfl, hb', hc'⟩ := (HL'.out.up hbw).at (by omega)
      obtain ⟨c0, c1⟩ := hc k hlt
      obtain ⟨d0, d1⟩ := hc' k hlt
      clear hc hc'
      go_wp2_with fail
      refine wp_region_fam (by kernel_rfl) (by kernel_rfl) (fun ι F hne hF hcl => ?_)
      have hcF0 := fun n o => (bcell (hF n)).1 (b) o (by first | (simp; done) | (simp; omega) | omega)
      have hcF1 := fun n o => (bcell (hF n)).1 (b') o (by first | (simp; done) | (simp; omega) | omega)
      have HF := Lib.hid hF; clear hF
      have HC := Lib.hid hcl; clear hcl
      repeat (any_goals (first
       | go_big_quiet_step (first | (fail))
       | (refine wpQuiet_guard _ _ _ rfl rfl ?_; (fail_if_success (intro b' hb; have h2 := hb.symm; have : b' = true := h2.trans (by with_reducible rfl))); (fail_if_success (intro b' hb; have h2 := hb.symm; have : b' = false := h2.trans (by with_reducible rfl))); intro b' hb; simp only [hb]; cases b' <;> (try simp only [Bool.not_eq_true', Bool.not_eq_false', decide_eq_true_eq, decide_eq_false_iff_not, Int.not_lt, Int.not_le, Bool.and_eq_true, Bool.or_eq_true, Bool.or_eq_false_iff, beq_iff_eq, beq_eq_false_iff_ne, Int.natCast_pos] at hb))))
      all_goals (refine wpQuiet_nil ?_; intro nq)
      have hFwf := HF.out nq
      clear HF HC hne
      generalize F nq = wf at *
      go_wp2_with fail
      (first | (go_round; (case rel => exact ⟨k + 1, by omega, by go_num, bel_trans hbw hFwf⟩); (case measure => (simp [intOf] <;> omega))) | (go_roundw; (case rel => exact ⟨k + 1, by omega, by go_num, bel_trans hbw hFwf⟩); (case measure => (simp [intOf] <;> omega))) | (refine ⟨?_, by simp [intOf] <;> omega⟩; (repeat apply Exists.intro); refine ⟨?rel, ?fr⟩; (case fr => ((repeat' apply And.intro) <;> rfl)); (case rel => exact ⟨k + 1, by omega, by go_num, bel_trans hbw hFwf⟩)))
    · go_wp2_with fail
      go_ret
      exact ⟨rfl, hbw⟩
instance : Inhabited TxD := ⟨⟨0, 0, ⟨#[]⟩, ⟨#[]⟩⟩⟩
def encX (x : TxD) : List Value := [.int .i64 x.se, .int .i64 x.sq, .string x.k, .string x.v]
theorem encX_len (x : TxD) : (encX x).length = 4 := rfl
theorem encX_one (x : TxD) : ∀ u ∈ encX x, u.oneCell' = true := by
  intro u hu
  simp only [encX, List.mem_cons, List.not_mem_nil, or_false] at hu
  rcases hu with rfl | rfl | rfl | rfl <;> rfl
def xth (l : List TxD) (i : Nat) : TxD := l.getD i default
def TxsR (w : World) (A : Option Addr) (n : Nat) (l : List TxD) : Prop := l.length = n ∧ RowV w A n 4 (flat encX l)
theorem TxsR.up {w w' : World} {A n l} (h : TxsR w A n l) (hb : Below w.heap.size w w') : TxsR w' A n l := ⟨h.1, h.2.up hb⟩
theorem TxsR.at {w : World} {A n l} (h : TxsR w A n l) (hn : 0 < n) : ∃ b off, A = some ⟨b, off, none⟩ ∧ b < w.heap.size ∧ ∀ j, j < n → w.cell? ⟨b, off + j * 4, none⟩ = some (.int .i64 (xth l j).se) ∧ w.cell? ⟨b, off + j * 4 + 1, none⟩ = some (.int .i64 (xth l j).sq) ∧ w.cell? ⟨b, off + j * 4 + 2, none⟩ = some (.string (xth l j).k) ∧ w.cell? ⟨b, off + j * 4 + 3, none⟩ = some (.string (xth l j).v) := by
  obtain ⟨b, off, e, hb, hc⟩ := h.2.2.2 hn
  refine ⟨b, off, e, hb, fun j hj => ?_⟩
  have hat : ∀ r u, r < 4 → (encX (xth l j))[r]? = some u → w.cell? ⟨b, off + j * 4 + r, none⟩ = some u := fun r u hr hu => by
    rw [Nat.add_assoc]
    exact hc _ u (by rw [flat_at encX_len l j r (by rw [h.1]; exact hj) hr]; exact hu)
  exact ⟨hat 0 _ (by omega) rfl, hat 1 _ (by omega) rfl, hat 2 _ (by omega) rfl, hat 3 _ (by omega) rfl⟩
instance : Inhabited ByteArray := ⟨⟨#[]⟩⟩
structure BatchD where
  au : Int
  n : Int
  tx : List TxD
instance : Inhabited BatchD := ⟨⟨0, 0, []⟩⟩
def SmP (p : PairD) : Prop := p.k.size ≤ 140737488355328 ∧ p.v.size ≤ 140737488355328
def SmX (x : TxD) : Prop := x.k.size ≤ 140737488355328 ∧ x.v.size ≤ 140737488355328
def SmB (b : BatchD) : Prop := b.tx.length ≤ 17592186044416 ∧ ∀ x ∈ b.tx, SmX x
structure AskP where
  p : SlP
  q : SlP
  x : SlP
  b : SlP
  k : SlP
structure AskD where
  p : List PairD
  q : List AcctD
  x : List TxD
  b : List BatchD
  k : List ByteArray
end Go.Proofs.Ytbakkpabiknlmaa
