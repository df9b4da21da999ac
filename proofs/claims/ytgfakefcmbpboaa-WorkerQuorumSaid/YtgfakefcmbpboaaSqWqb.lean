/- WorkerQuorum: the states that the law passes (plain). -/
import Derived.Test.YtgfakefcmbpboaaSqWqa
import Derived.Test.YtgfakefcmbpboaaSqWsc
import Derived.Test.YtgfakefcmbpboaaSqWma
namespace Go.Proofs.Ytgfakefcmbpboaa
open Go.RowKit
set_option linter.unusedSimpArgs false
set_option linter.unusedVariables false

def qTx (i : Nat) : TxD := ⟨1, (i : Int) + 1, ⟨#[107]⟩, ⟨#[118]⟩⟩
def qTxs : Nat → List TxD
  | 0 => []
  | i + 1 => qTxs i ++ [qTx i]
theorem qTxs_len (i : Nat) : (qTxs i).length = i := by induction i with | zero => rfl | succ i ih => simp [qTxs, ih]
theorem qTx_ok {i : Nat} (h : i < 24) : txS (qTx i) = true := by
  rw [txS_iff]
  exact ⟨show (1 : Int) ≤ 1 by decide, show (1 : Int) ≤ 1099511627776 by decide, show (1 : Int) ≤ (i : Int) + 1 by omega, show (i : Int) + 1 ≤ 1099511627776 by omega, show 1 ≤ 1 by decide, show 1 ≤ 16 by decide, show 1 ≤ 32 by decide⟩
/-- The worker when i transactions are in. -/
def qAdd (n : Int) (i : Nat) : WorkD := ⟨1, n, 1, qTxs i, 0, 0, [], [], []⟩
theorem qAdd_succ (n : Int) (i : Nat) : addOp (qAdd n i) (qTx i) = qAdd n (i + 1) := rfl
theorem wtP_nil (n : Int) : WtP [] n := ⟨fun x hx => (by cases hx), List.Pairwise.nil⟩
theorem hdP_nil : HdP [] := ⟨fun x hx => (by cases hx), List.Pairwise.nil⟩
theorem seen_nil : Seen [] := seenB_iff.1 seenB_nil
theorem qAdd_may {n : Int} (hn : isS n = true) {i : Nat} (hi : i ≤ 24) : WMay (qAdd n i) := by
  induction i with
  | zero => exact ⟨hn, by show (1 : Int) ≤ 1; omega, (isS_bd hn).1, ⟨by show (1 : Int) ≤ 1; omega, by show (1 : Int) ≤ _; omega⟩, ⟨by show (0 : Int) ≤ 0; omega, by show (0 : Int) ≤ _; omega⟩, ⟨by show (0 : Int) ≤ 0; omega, by show (0 : Int) ≤ _; omega⟩, show 0 ≤ 64 by decide, show 0 ≤ 1024 by decide, fun x hx => (by cases hx), wtP_nil _, hdP_nil, seen_nil⟩
  | succ i ih => rw [← qAdd_succ]; exact (ih (by omega)).add (qTx_ok (by omega)) (by show (qTxs i).length < 64; rw [qTxs_len]; omega)
def rngI : Nat → List Int
  | 0 => []
  | k + 1 => rngI k ++ [(k : Int) + 1]
theorem rngI_len (k : Nat) : (rngI k).length = k := by induction k with | zero => rfl | succ k ih => simp [rngI, ih]
theorem rngI_mem {k : Nat} {x : Int} : x ∈ rngI k ↔ 1 ≤ x ∧ x ≤ k := by
  induction k with
  | zero => simp [rngI]; omega
  | succ k ih => rw [rngI, List.mem_append, ih, List.mem_singleton]; omega
theorem rngI_pos (k : Nat) : posI (rngI k) ((k : Int) + 1) = k :=
  posI_eq (by rw [rngI_len]; exact Nat.le_refl _) (fun j hj => by
    have : nth (rngI k) j ∈ rngI k := nth_mem (by rw [rngI_len]; exact hj)
    have := (rngI_mem.1 this).2; omega) (fun h => by rw [rngI_len] at h; omega)
theorem rngI_ack (k : Nat) : ackI (rngI k) ((k : Int) + 1) = rngI (k + 1) := by
  unfold ackI
  rw [if_neg (by unfold memS; rw [decide_eq_true_eq, rngI_mem]; omega), rngI_pos]
  unfold insAt
  rw [List.take_of_length_le (by rw [rngI_len]; exact Nat.le_refl _), List.drop_eq_nil_of_le (by rw [rngI_len]; exact Nat.le_refl _)]
  rfl
theorem rngI_same (k : Nat) : ackI (rngI (k + 1)) ((k : Int) + 1) = rngI (k + 1) := by
  unfold ackI
  rw [if_pos (by unfold memS; rw [decide_eq_true_eq, rngI_mem]; omega)]
def waitK (n d : Int) (k : Nat) : List WaitD := if (k : Int) < 2 * ((n - 1) / 3) + 1 then [⟨d, rngI k⟩] else []
def reK (n d : Int) (k : Nat) (r : List Int) : List Int := if (k : Int) < 2 * ((n - 1) / 3) + 1 then r else r ++ [d]
/-- A worker whose batch d is kept by k nodes. -/
def ackedD (D : WorkD) (d : Int) (r : List Int) (k : Nat) : WorkD := { D with wa := waitK D.nodes d k, re := reK D.nodes d k r }
theorem kpos_one (d : Int) (ak : List Int) : kposW [⟨d, ak⟩] d = 0 := cnt_eq _ _ 0 (by simp) (fun t ht => by omega) (fun _ => by simp [ltI])
theorem khas_one (d : Int) (ak : List Int) : khasW [⟨d, ak⟩] d = true := by
  show dec _ = true
  refine dec_iff.2 ?_
  rw [kpos_one]; exact ⟨by simp, rfl⟩
theorem ackW_one (d who : Int) (ak : List Int) : ackW [⟨d, ak⟩] who d = [⟨d, ackI ak who⟩] := by
  rw [ackW_yes (kpos_one d ak) (khas_one d ak)]; rfl
theorem ackW_nil (who d : Int) : ackW [] who d = [] := ackW_no (khasW_nil d)
theorem keptW_one (n d : Int) (k : Nat) : keptW n [⟨d, rngI k⟩] = waitK n d k := by
  unfold keptW waitK qS
  by_cases h : (k : Int) < 2 * ((n - 1) / 3) + 1
  · simp [rngI_len, h]
  · simp [rngI_len, h]
theorem keptR_one {n d : Int} {k : Nat} {r : List Int} (hr : d ∉ r) : keptR n r [⟨d, rngI k⟩] = reK n d k r := by
  unfold reK
  by_cases h : (k : Int) < 2 * ((n - 1) / 3) + 1
  · simp [keptR, qS, rngI_len, h]
  · have hm : memS r d = false := by unfold memS; simpa using hr
    simp [keptR, qS, rngI_len, h, hm]
theorem told_next {D : WorkD} {d : Int} {r : List Int} {k : Nat} (hr : d ∉ r) : toldD (ackedD D d r k) ((k : Int) + 1) d = ackedD D d r (k + 1) := by
  have e : ∀ n : Int, keptW n (ackW (waitK n d k) ((k : Int) + 1) d) = waitK n d (k + 1) ∧ keptR n (reK n d k r) (ackW (waitK n d k) ((k : Int) + 1) d) = reK n d (k + 1) r := fun n => by
    by_cases h : (k : Int) < 2 * ((n - 1) / 3) + 1
    · have e1 : waitK n d k = [⟨d, rngI k⟩] := by unfold waitK; rw [if_pos h]
      have e2 : reK n d k r = r := by unfold reK; rw [if_pos h]
      rw [e1, e2, ackW_one, rngI_ack, keptW_one, keptR_one hr]
      exact ⟨rfl, rfl⟩
    · have e1 : waitK n d k = [] := by unfold waitK; rw [if_neg h]
      have e3 : waitK n d (k + 1) = [] := by unfold waitK; rw [if_neg (by omega)]
      have e2 : reK n d (k + 1) r = reK n d k r := by unfold reK; rw [if_neg (by omega), if_neg h]
      rw [e1, e3, ackW_nil, e2]
      exact ⟨rfl, rfl⟩
  obtain ⟨e1, e2⟩ := e D.nodes
  unfold toldD ackedD
  dsimp only
  rw [e1, e2]
theorem told_again {D : WorkD} {d : Int} {r : List Int} {k : Nat} : toldD (ackedD D d r (k + 1)) ((k : Int) + 1) d = ackedD D d r (k + 1) := by
  have e : ∀ n : Int, keptW n (ackW (waitK n d (k + 1)) ((k : Int) + 1) d) = waitK n d (k + 1) ∧ keptR n (reK n d (k + 1) r) (ackW (waitK n d (k + 1)) ((k : Int) + 1) d) = reK n d (k + 1) r := fun n => by
    by_cases h : ((k + 1 : Nat) : Int) < 2 * ((n - 1) / 3) + 1
    · have e1 : waitK n d (k + 1) = [⟨d, rngI (k + 1)⟩] := by unfold waitK; rw [if_pos h]
      have e2 : reK n d (k + 1) r = r := by unfold reK; rw [if_pos h]
      refine ⟨?_, ?_⟩
      · rw [e1, ackW_one, rngI_same, keptW_one, e1]
      · rw [e1, e2, ackW_one, rngI_same]
        simp only [keptR]
        rw [if_pos (by rw [rngI_len]; exact h)]
    · have e1 : waitK n d (k + 1) = [] := by unfold waitK; rw [if_neg h]
      rw [e1, ackW_nil]
      exact ⟨rfl, rfl⟩
  obtain ⟨e1, e2⟩ := e D.nodes
  unfold toldD ackedD
  dsimp only
  rw [e1, e2]
def qBatch (m : Nat) : BatchD := ⟨1, (m : Int) + 1, ((qTxs 24).drop (8 * m)).take 8⟩
def qHe : Nat → List HeldD
  | 0 => []
  | m + 1 => qHe m ++ [⟨(m : Int) + 1, qBatch m⟩]
theorem qHe_len (m : Nat) : (qHe m).length = m := by induction m with | zero => rfl | succ m ih => simp [qHe, ih]
theorem qHe_low {m : Nat} : ∀ x ∈ qHe m, x.di ≤ m := by
  induction m with
  | zero => intro x hx; cases hx
  | succ m ih =>
    intro x hx
    rw [qHe] at hx
    rcases List.mem_append.1 hx with hx | hx
    · have := ih x hx; omega
    · have : x = ⟨(m : Int) + 1, qBatch m⟩ := by simpa using hx
      subst this; show (m : Int) + 1 ≤ _; omega
theorem qHe_pos (m : Nat) : kposH (qHe m) ((m : Int) + 1) = m := cnt_eq _ _ m (by rw [qHe_len]; exact Nat.le_refl _) (fun t ht => by
  have := qHe_low _ (getD_mem (l := qHe m) (j := t) (by rw [qHe_len]; exact ht))
  simp only [ltI, decide_eq_true_eq]; omega) (fun h => by rw [qHe_len] at h; omega)
theorem qHe_has (m : Nat) : khasH (qHe m) ((m : Int) + 1) = false := by
  cases h : khasH (qHe m) ((m : Int) + 1)
  · rfl
  · have := (dec_iff.1 h).1
    have e : kposH (qHe m) ((m : Int) + 1) < (qHe m).length := this
    rw [qHe_pos, qHe_len] at e
    omega
/-- The worker when m batches are sealed and kept. -/
def qBase (n : Int) (m : Nat) : WorkD := ⟨1, n, (m : Int) + 1, (qTxs 24).drop (8 * m), 0, 0, [], qHe m, rngI m⟩
theorem qBase_zero (n : Int) : qBase n 0 = qAdd n 24 := rfl
theorem qBase_next {n : Int} {m : Nat} (hm : m < 3) : nxE (qBase n m) = 0 := by
  unfold nxE
  have e1 : (qBase n m).op.length = 24 - 8 * m := by show ((qTxs 24).drop (8 * m)).length = _; rw [List.length_drop, qTxs_len]
  have e2 : (qBase n m).he.length = m := qHe_len m
  have e3 : (qBase n m).next = (m : Int) + 1 := rfl
  rw [e1, e2, e3, if_neg (by omega), if_neg (by omega)]
theorem qBase_done (n : Int) : nxE (qBase n 3) = 10 := by
  unfold nxE
  have e1 : (qBase n 3).op.length = 0 := by show ((qTxs 24).drop (8 * 3)).length = _; rw [List.length_drop, qTxs_len]
  rw [e1, if_pos (by left; omega)]
/-- Where a batch is sealed: its own node keeps it. -/
def qSeal (n : Int) (m : Nat) : WorkD := ⟨1, n, (m : Int) + 1 + 1, ((qTxs 24).drop (8 * m)).drop 8, 0, 0, [], qHe (m + 1), []⟩
theorem qSeal_eq (n : Int) (m : Nat) : sealD (qBase n m) ((m : Int) + 1) = ackedD (qSeal n m) ((m : Int) + 1) (rngI m) 1 := by
  have hw : sealW (qBase n m) ((m : Int) + 1) = [⟨(m : Int) + 1, rngI 1⟩] := by
    unfold sealW
    rw [show (qBase n m).wa = [] from rfl, khasW_nil]
    rfl
  have hr : ((m : Int) + 1) ∉ rngI m := fun h => by have := (rngI_mem.1 h).2; omega
  have he : insAt (qHe m) (kposH (qHe m) ((m : Int) + 1)) ⟨(m : Int) + 1, qBatch m⟩ = qHe (m + 1) := by
    rw [qHe_pos]
    unfold insAt
    rw [List.take_of_length_le (by rw [qHe_len]; exact Nat.le_refl _), List.drop_eq_nil_of_le (by rw [qHe_len]; exact Nat.le_refl _)]
    rfl
  unfold sealD
  rw [hw]
  show (⟨1, n, (m : Int) + 1 + 1, ((qTxs 24).drop (8 * m)).drop 8, 0, 0, keptW n [⟨(m : Int) + 1, rngI 1⟩], insAt (qHe m) (kposH (qHe m) ((m : Int) + 1)) ⟨(m : Int) + 1, qBatch m⟩, keptR n (rngI m) [⟨(m : Int) + 1, rngI 1⟩]⟩ : WorkD) = _
  rw [he, keptW_one, keptR_one hr]
  rfl
theorem qSeal_done {n : Int} {m k : Nat} (hk : 2 * ((n - 1) / 3) + 1 ≤ (k : Int)) : ackedD (qSeal n m) ((m : Int) + 1) (rngI m) k = qBase n (m + 1) := by
  unfold ackedD qSeal qBase
  dsimp only
  have e1 : waitK n ((m : Int) + 1) k = [] := by unfold waitK; rw [if_neg (by omega)]
  have e2 : reK n ((m : Int) + 1) k (rngI m) = rngI (m + 1) := by unfold reK; rw [if_neg (by omega)]; rfl
  rw [e1, e2, List.drop_drop, show 8 * m + 8 = 8 * (m + 1) by omega]
  have e3 : (m : Int) + 1 + 1 = ((m + 1 : Nat) : Int) + 1 := by omega
  rw [e3]
theorem reK_mem {n : Int} {m k : Nat} : ((m : Int) + 1) ∈ reK n ((m : Int) + 1) k (rngI m) ↔ 2 * ((n - 1) / 3) + 1 ≤ (k : Int) := by
  unfold reK
  split
  · rw [rngI_mem]; omega
  · rw [List.mem_append, rngI_mem, List.mem_singleton]; omega
theorem qMid_may {n : Int} (hn : isS n = true) {m : Nat} (hm : m < 3) (h : WMay (qBase n m)) : ∀ k : Nat, ((k : Int) + 1 ≤ n) → WMay (ackedD (qSeal n m) ((m : Int) + 1) (rngI m) (k + 1)) := fun k => by
  have hr : ((m : Int) + 1) ∉ rngI m := fun h => by have := (rngI_mem.1 h).2; omega
  induction k with
  | zero =>
    intro _
    rw [← qSeal_eq]
    exact h.seal (qBase_next hm) (by simp [digS]; omega) (qHe_has m)
  | succ k ih =>
    intro hk
    have e := told_next (D := qSeal n m) (k := k + 1) hr
    rw [← e]
    exact (ih (by omega)).told (by omega) (by show ((k + 1 : Nat) : Int) + 1 ≤ n; exact hk)
theorem got_next {m : Nat} : (qTxs 24).take (8 * m) ++ (qBatch m).tx = (qTxs 24).take (8 * (m + 1)) := by
  show (qTxs 24).take (8 * m) ++ ((qTxs 24).drop (8 * m)).take 8 = _
  rw [show 8 * (m + 1) = 8 * m + 8 by omega, List.take_add]
theorem quo_le {n : Int} (h : isS n = true) : 2 * ((n - 1) / 3) + 1 ≤ n := by have := isS_iff.1 h; omega
theorem ask_len {n : Nat} (hn : 1 ≤ n) (d : Int) (b : BatchD) : (askL 1 d b [] n).length = n - 1 := by
  have main : ∀ k : Nat, (askL 1 d b [] (k + 1)).length = k := fun k => by
    induction k with
    | zero => simp [askL]
    | succ k ih =>
      rw [askL, List.length_append, ih, if_pos ⟨by omega, by simp [memS]⟩]
      rfl
  obtain ⟨k, rfl⟩ : ∃ k, n = k + 1 := ⟨n - 1, by omega⟩
  rw [main]; omega
theorem qBase_may {n : Int} (hn : isS n = true) {m : Nat} (hm : m ≤ 3) : WMay (qBase n m) := by
  induction m with
  | zero => rw [qBase_zero]; exact qAdd_may hn (Nat.le_refl _)
  | succ m ih =>
    have h1 := (isS_bd hn).1
    obtain ⟨k, hk⟩ : ∃ k : Nat, (k : Int) + 1 = n := ⟨n.toNat - 1, by omega⟩
    have h2 := qMid_may hn (show m < 3 by omega) (ih (by omega)) k (by omega)
    rwa [qSeal_done (by have := quo_le hn; omega)] at h2
theorem big_of {D : WorkD} (h : WMay D) (hw : BigW D.wa) (hr : D.re.length ≤ 1000) : BigD D :=
  ⟨Nat.le_trans h.opl (by decide), hw, ⟨Nat.le_trans h.hel (by decide), fun x hx => by have := (bmT_iff.1 (h.he.1 x hx).2).2.2.2.2.2.1; omega⟩, by omega⟩
theorem waitK_big (n d : Int) {k : Nat} (hk : k ≤ 16) : BigW (waitK n d k) := by
  unfold waitK
  split
  · exact ⟨by simp, fun x hx => by
      have : x = ⟨d, rngI k⟩ := by simpa using hx
      subst this; show (rngI k).length ≤ _; rw [rngI_len]; omega⟩
  · exact ⟨by simp, fun x hx => by cases hx⟩
theorem qAdd_big {n : Int} (hn : isS n = true) {i : Nat} (hi : i ≤ 24) : BigD (qAdd n i) := big_of (qAdd_may hn hi) ⟨show 0 ≤ _ by omega, fun x hx => by cases hx⟩ (show 0 ≤ 1000 by omega)
theorem qBase_big {n : Int} (hn : isS n = true) {m : Nat} (hm : m ≤ 3) : BigD (qBase n m) := big_of (qBase_may hn hm) ⟨show 0 ≤ _ by omega, fun x hx => by cases hx⟩ (by show (rngI m).length ≤ 1000; rw [rngI_len]; omega)
theorem qMid_big {n : Int} (hn : isS n = true) {m k : Nat} (hm : m < 3) (hk : (k : Int) + 1 ≤ n) : BigD (ackedD (qSeal n m) ((m : Int) + 1) (rngI m) (k + 1)) :=
  big_of (qMid_may hn hm (qBase_may hn (by omega)) k hk) (waitK_big _ _ (by have := (isS_bd hn).2; omega)) (by
    show (reK n _ _ (rngI m)).length ≤ 1000
    unfold reK
    split
    · rw [rngI_len]; omega
    · simp [rngI_len]; omega)
theorem qBatch_len {m : Nat} (hm : m < 3) : (qBatch m).tx.length = 8 := by
  show (((qTxs 24).drop (8 * m)).take 8).length = 8
  rw [List.length_take, List.length_drop, qTxs_len]; omega
theorem qMk {n : Int} (hn : isS n = true) {m : Nat} (hm : m < 3) : mkB (qBase n m) = qBatch m ∧ mkE (qBase n m) = 0 := by
  have h1 : mayW (qBase n m) = true := wmay_iff.2 (qBase_may hn (by omega))
  have h2 := qBase_next (n := n) hm
  unfold mkB mkE
  rw [if_pos h1, if_pos h1, h2]
  refine ⟨?_, rfl⟩
  unfold nxB
  rw [if_pos h2]; rfl
theorem qMk3 {n : Int} (hn : isS n = true) : mkE (qBase n 3) = 10 := by
  have h1 : mayW (qBase n 3) = true := wmay_iff.2 (qBase_may hn (Nat.le_refl _))
  unfold mkE
  rw [if_pos h1, qBase_done]
end Go.Proofs.Ytgfakefcmbpboaa
