/- WorkerWorld: a message is taken; messages fall out of a row. -/
import Derived.Test.YtgfakefcmbpboaaSxWwc
import Derived.Test.YtgfakefcmbpboaaSxWgj
import Derived.Test.YtgfakefcmbpboaaSxWhe
import Derived.Test.YtgfakefcmbpboaaSxWmj
namespace Go.Proofs.Ytgfakefcmbpboaa
open Go.RowKit
set_option linter.unusedSimpArgs false
set_option linter.unusedVariables false

theorem WorldI.sub {n : Nat} {ws : List WorkD} {way way' : List MsgD} {book : List BatchD} (h : WorldI n ws way book) (hs : ∀ m ∈ way', m ∈ way) : WorldI n ws way' book :=
  ⟨h.nn, h.len, h.w, fun m hm => h.way m (hs m hm), h.book⟩
theorem rises16 {l : List Int} {n : Int} (hn : isS n = true) (h : RisesIn l n) : l.length ≤ 16 := by
  have hb := isS_bd hn
  have h1 := h.cnt (by omega)
  have h2 := cntK_leW l n.toNat
  omega
theorem askM_msgB {n : Nat} {ws : List WorkD} {way : List MsgD} {book : List BatchD} (hi : WorldI n ws way book) (hbl : book.length ≤ 65536) {fr tt d : Int} {b : BatchD} (h1 : 1 ≤ fr) (h2 : fr ≤ n) (h3 : 1 ≤ tt) (h4 : tt ≤ n) (h5 : fr ≠ tt) (hb : InBook book d b) : msgB (askM fr d b tt) n = true := by
  have hbm := bth_bm hi hb
  refine dec_iff.2 ⟨⟨hi.nn, h1, h2, h3, h4, h5⟩, ?_, ?_⟩
  · unfold okM; rw [if_pos (show (askM fr d b tt).ki = 1 ∨ (askM fr d b tt).ki = 3 from .inl rfl)]
    exact ⟨by show digS d = true; have := hb.1; have := hb.2.1; simp [digS]; omega, hbm.1, hbm.2⟩
  · unfold onlyD; rw [if_pos (show (askM fr d b tt).ki = 1 ∨ (askM fr d b tt).ki = 3 from .inl rfl)]; rfl
theorem tellM_msgB {n : Int} (hn : isS n = true) {fr tt d : Int} (h1 : 1 ≤ fr) (h2 : fr ≤ n) (h3 : 1 ≤ tt) (h4 : tt ≤ n) (h5 : fr ≠ tt) (hd : digS d = true) : msgB (tellM fr tt d) n = true := by
  refine dec_iff.2 ⟨⟨hn, h1, h2, h3, h4, h5⟩, ?_, ?_⟩
  · unfold okM; rw [if_neg (by simp [tellM]), if_pos (show (tellM fr tt d).ki = 2 from rfl)]; exact hd
  · unfold onlyD; rw [if_neg (by simp [tellM]), if_pos (show (tellM fr tt d).ki = 2 from rfl)]; rfl
/-- A worker of the world takes a message that was on its way. -/
theorem world_take {n : Nat} {ws : List WorkD} {way : List MsgD} {book : List BatchD} (hI : WorldI n ws way book) (hbl : book.length ≤ 300) {m : MsgD} (hm : OkMsg n ws book m) {k : Nat} (hk : (k : Int) + 1 = m.tt) (P : WorkP) (Pm : MsgP) (B : Nat) (w : World) (hO : WorkO w B P (wk ws k)) (hM : OwnM w B Pm m) :
    Calls Try.prog 13 #[P.val (wk ws k), M18 Pm m] w fun e w' => ∃ P' D' A c L us, e = .returned (.tuple #[P'.val D', .slice A L.length c, .int .i64 0]) ∧ WorkO w' w.heap.size P' D' ∧ OwnT dMsg w' w.heap.size (.slice A L.length c) us L ∧ L.length ≤ 1 ∧ WorldI n (ws.set k D') (way ++ L) book ∧ Below w.heap.size w w' := by
  obtain ⟨hbig, hki, g1, g2⟩ := hm.mil hI
  have hkn : k < n := by omega
  have o := hI.w k hkn
  have hs := o.big hbl
  have hR := hO.work hs
  have hMR := hM.msg hbig
  have fin : ∀ {D' : WorkD} {L : List MsgD}, L.length ≤ 1 → WorldI n (ws.set k D') (way ++ L) book → ∀ (e : Ending) (w' : World), (∃ P' A n1 c, e = .returned (.tuple #[P'.val D', .slice A n1 c, .int .i64 0]) ∧ WorkO w' w.heap.size P' D' ∧ OwnMs w' w.heap.size (.slice A n1 c) L ∧ Below w.heap.size w w') →
      ∃ P' D' A c L us, e = .returned (.tuple #[P'.val D', .slice A L.length c, .int .i64 0]) ∧ WorkO w' w.heap.size P' D' ∧ OwnT dMsg w' w.heap.size (.slice A L.length c) us L ∧ L.length ≤ 1 ∧ WorldI n (ws.set k D') (way ++ L) book ∧ Below w.heap.size w w' := fun {D' L} hL hI' e w' hx => by
    obtain ⟨P', A, n1, c, he, hO', ⟨us, hT⟩, hb⟩ := hx
    obtain ⟨A', c', e', _⟩ := hT.read
    injection e' with e1 e2 e3
    subst e2
    exact ⟨P', D', A, c, L, us, he, hO', hT, hL, hI', hb⟩
  obtain ⟨fr, tt, h1, h2, h3, h4, h5, h6⟩ := hm
  rcases h6 with ⟨d, b, rfl, hb⟩ | ⟨d, rfl, q1, q2, q3⟩
  · have htt : tt = (k : Int) + 1 := hk.symm
    subst htt
    refine (worker_Take_ok P (wk ws k) Pm (askM fr d b ((k : Int) + 1)) (heldD (wk ws k) (askM fr d b ((k : Int) + 1))) (heldL (wk ws k) (askM fr d b ((k : Int) + 1))) w hR hs hMR takesK1 (wmay_iff.2 o.may) (by rw [o.nodes]; exact askM_msgB hI (by omega) h1 h2 h3 h4 h5 hb) (by rw [o.id]; rfl)
      (fun P1 u hu hO1 => worker_Got13 P1 (wk ws k) Pm (askM fr d b ((k : Int) + 1)) w.heap.size u hO1 hs hu.size (wmay_iff.2 o.may) (hMR.tx.up hu) (by rw [← hMR.lens.1]; exact hbig.b) (.inl rfl))).mono (fin ?_ ?_)
    · unfold heldL; split <;> simp
    · exact hI.asked (by omega) hkn h1 h2 h5 hb
  · have htt : tt = (k : Int) + 1 := hk.symm
    subst htt
    have hri := fun x hx => (o.may.wa.1 x hx).2
    refine (worker_Take_ok P (wk ws k) Pm (tellM fr ((k : Int) + 1) d) (toldD (wk ws k) fr d) [] w hR hs hMR takesK2 (wmay_iff.2 o.may) (by rw [o.nodes]; exact tellM_msgB hI.nn h1 h2 h3 h4 h5 (by simp [digS]; omega)) (by rw [o.id]; rfl)
      (fun P1 u hu hO1 => worker_Got2 P1 (wk ws k) Pm (tellM fr ((k : Int) + 1) d) w.heap.size u hO1 hs (fun x hx => by have := rises16 o.may.nodes (hri x hx); omega) (by have := o.lens.1; have := o.lens.2.1; omega) ⟨h1, by rw [o.nodes]; exact h2⟩ hu.size (wmay_iff.2 o.may) rfl)).mono (fin (by simp) ?_)
    have := hI.told hkn h1 h2 q3
    simpa using this
theorem step_appWayR {ops : Array Oper} {o : Oper} {a : Act} {w : World} {K : Act → World → Prop} {Q : Exit → Act → World → Prop} {E : Prop} (hgd : o.guard = none) (s x : Operand)
    (ho : o.op = .call { callee := .builtin .append, args := #[s, x], argTypes := #[43, 43] }) (hty : o.type = 43) (B : Nat) (v : Value) (ps : List MsgP) (l : List MsgD) (hs : a.eval s = v) (hown : OwnT dMsg w B v ps l) (A : Option Addr) (m c : Nat) (qs : List MsgP) (e : List MsgD) (hx : a.eval x = .slice A m c)
    (he : RowV w A m 18 (dcells dMsg e qs)) (hm : e.length = m) (hq : qs.length = e.length) (hin : ∀ j, j < e.length → OwnM w B (qs.getD j default) (e.getD j default)) (hn : l.length + m ≤ 900000000) (hB : B ≤ w.heap.size)
    (h : ∀ v' w', OwnT dMsg w' B v' (ps ++ qs) (l ++ e) → TKeep 54 w w' → w.grownBy w' v.ownBlock → Below B w w' → (∀ q, v'.ownBlock = some q → v.ownBlock = some q ∨ w.heap.size ≤ q) → K (a.put o.dst v') w') : if Region.wanted o (yielded ops a.tmps) = true then Oper.wp Try.prog o a w K Q else E := by
  obtain ⟨v', w', hrun, h2, h3, h4, h5⟩ := run_appRow_Message w B v l.length (dcells dMsg l ps) hown.1 A m c (dcells dMsg e qs) he (dcells_oneK dMsg hq hin) hn hB
  exact step_app_runR hgd s x _ _ ho _ _ hs hx (by rw [hty]; exact hrun) (h v' w' (hown.app hq hin (by rw [hm]; exact h2) h3) (tk_grown hown.1 h3) h3 h4 h5)
theorem RowV.takeK7 {w : World} {A : Option Addr} {n k i : Nat} {xs : List Value} (h : RowV w A n k xs) (hi : i ≤ n) : RowV w A i k (xs.take (i * k)) := by
  obtain ⟨h1, h2, h3⟩ := h
  refine ⟨by rw [List.length_take, h1]; exact Nat.min_eq_left (Nat.mul_le_mul_right _ hi), by omega, fun h0 => ?_⟩
  obtain ⟨b, off, e, hb, hc⟩ := h3 (by omega)
  exact ⟨b, off, e, hb, fun j u hu => by
    rw [List.getElem?_take] at hu
    split at hu
    · exact hc j u hu
    · cases hu⟩
theorem mem_cut {α : Type} {l : List α} {i : Nat} {x : α} (h : x ∈ l.take i ++ l.drop (i + 1)) : x ∈ l := by
  rcases List.mem_append.1 h with h | h
  · exact List.mem_of_mem_take h
  · exact List.mem_of_mem_drop h
theorem world_arr (w : World) (k : Nat) (hk : (k : Int) < 3) : ∃ n : Nat, isS (n : Int) = true ∧ n ≤ 7 ∧ 1 ≤ n ∧ (w.alloc (.cells #[.int .i64 1, .int .i64 4, .int .i64 7] 3)).cell? ⟨w.heap.size, k, none⟩ = some (.int .i64 (n : Int)) := by
  have hb := (Blk.new w 3 [.int .i64 1, .int .i64 4, .int .i64 7]).box
  have h3 : k = 0 ∨ k = 1 ∨ k = 2 := by omega
  rcases h3 with rfl | rfl | rfl
  · exact ⟨1, by decide, by decide, by decide, hb.2 0 _ rfl⟩
  · exact ⟨4, by decide, by decide, by decide, hb.2 1 _ rfl⟩
  · exact ⟨7, by decide, by decide, by decide, hb.2 2 _ rfl⟩
def wTx (i : Nat) : TxD := ⟨1, (i : Int) + 1, ⟨#[107]⟩, ⟨#[]⟩⟩
theorem wTx_ok {i : Nat} (h : i ≤ 300) : txS (wTx i) = true := by
  rw [txS_iff]
  exact ⟨show (1 : Int) ≤ 1 by decide, show (1 : Int) ≤ 1099511627776 by decide, show (1 : Int) ≤ (i : Int) + 1 by omega, show (i : Int) + 1 ≤ 1099511627776 by omega, show 1 ≤ 1 by decide, show 1 ≤ 16 by decide, show 0 ≤ 32 by decide⟩
theorem tickL_len {n k : Nat} {ws : List WorkD} {book : List BatchD} {D : WorkD} (h : OkW n ws book k D) (hb : book.length ≤ 300) : (tickL D).length ≤ 5000 := by
  unfold tickL
  split
  · have h1 := waitsL_len D D.wa.length (isS_bd h.may.nodes).2
    have h2 := h.lens.1
    omega
  · simp
/-- What is read of a worker in its row. -/
theorem wrk_cells {w : World} {B g n c k : Nat} {Ps : List WorkP} {ws : List WorkD} (h : OwnT dWrk w B (.slice (some ⟨g, 0, none⟩) n c) Ps ws) (hn : ws.length = n) (hk : k < n) :
    ∃ P : WorkP, Ps.getD k default = P ∧ WorkO w B P (wk ws k) ∧ g < w.heap.size ∧ B ≤ g ∧ (∀ o, w.frozen? ⟨g, o, none⟩ = false) ∧ ∀ r u, (dWrk.enc (wk ws k) P)[r]? = some u → w.cell? ⟨g, k * 9 + r, none⟩ = some u := by
  obtain ⟨h1, h2, h3⟩ := h
  have hkl : k < ws.length := by omega
  rw [hn] at h1
  have h0 : w.ownsRow B 27 9 (.slice (some ⟨g, 0, none⟩) n c) n (dcells dWrk ws Ps) := h1
  obtain ⟨gg, fg⟩ := own_get h0
  have hl := own_lt h0 g rfl
  refine ⟨_, rfl, h3 k hkl, hl.2, hl.1, fg, fun r u hu => gg _ _ ?_⟩
  have hr : r < 9 := (List.getElem?_eq_some_iff.1 hu).1
  rw [show k * 9 + r = k * dWrk.k + r from rfl, dcells_at dWrk h2 hkl hr]
  exact hu
theorem msg_cells {w : World} {B g n c k : Nat} {ps : List MsgP} {l : List MsgD} (h : OwnT dMsg w B (.slice (some ⟨g, 0, none⟩) n c) ps l) (hn : l.length = n) (hk : k < n) :
    ∃ P : MsgP, ps.getD k default = P ∧ OwnM w B P (l.getD k default) ∧ g < w.heap.size ∧ ∀ r u, (msgCells P (l.getD k default))[r]? = some u → w.cell? ⟨g, k * 18 + r, none⟩ = some u := by
  obtain ⟨h1, h2, h3⟩ := h
  have hkl : k < l.length := by omega
  rw [hn] at h1
  have h0 : w.ownsRow B 54 18 (.slice (some ⟨g, 0, none⟩) n c) n (dcells dMsg l ps) := h1
  obtain ⟨gg, fg⟩ := own_get h0
  have hl := own_lt h0 g rfl
  refine ⟨_, rfl, h3 k hkl, hl.2, fun r u hu => gg _ _ ?_⟩
  have hr : r < 18 := (List.getElem?_eq_some_iff.1 hu).1
  rw [show k * 18 + r = k * dMsg.k + r from rfl, dcells_at dMsg h2 hkl hr]
  exact hu
theorem bat_cells {w : World} {B g n c k : Nat} {ps : List SlP} {l : List BatchD} (h : OwnT dBat w B (.slice (some ⟨g, 0, none⟩) n c) ps l) (hn : l.length = n) (hk : k < n) :
    ∃ p : SlP, ps.getD k default = p ∧ OwnX w B p.v (l.getD k default).tx ∧ g < w.heap.size ∧ ∀ r u, (dBat.enc (l.getD k default) p)[r]? = some u → w.cell? ⟨g, k * 3 + r, none⟩ = some u := by
  obtain ⟨h1, h2, h3⟩ := h
  have hkl : k < l.length := by omega
  rw [hn] at h1
  have h0 : w.ownsRow B 40 3 (.slice (some ⟨g, 0, none⟩) n c) n (dcells dBat l ps) := h1
  obtain ⟨gg, fg⟩ := own_get h0
  have hl := own_lt h0 g rfl
  refine ⟨_, rfl, h3 k hkl, hl.2, fun r u hu => gg _ _ ?_⟩
  have hr : r < 3 := (List.getElem?_eq_some_iff.1 hu).1
  rw [show k * 3 + r = k * dBat.k + r from rfl, dcells_at dBat h2 hkl hr]
  exact hu
end Go.Proofs.Ytgfakefcmbpboaa
namespace Go.Proofs.Ytgfakefcmbpboaa
open Go.RowKit
set_option linter.unusedSimpArgs false
set_option linter.unusedVariables false

def hitsH (l : List HeldD) (d : Int) : Nat → Nat
  | 0 => 0
  | m + 1 => hitsH l d m + if (hth l m).di = d then 1 else 0
theorem hitsH_yes {l : List HeldD} {d : Int} {m : Nat} (h : (hth l m).di = d) : hitsH l d (m + 1) = hitsH l d m + 1 := by rw [hitsH, if_pos h]
theorem hitsH_no {l : List HeldD} {d : Int} {m : Nat} (h : ¬ (hth l m).di = d) : hitsH l d (m + 1) = hitsH l d m := by rw [hitsH, if_neg h]; rfl
theorem hitsH_le (l : List HeldD) (d : Int) : ∀ m, hitsH l d m ≤ m
  | 0 => Nat.le_refl _
  | m + 1 => by
    have := hitsH_le l d m
    rw [hitsH]
    split <;> omega
theorem hitsH_one {l : List HeldD} {d : Int} {j : Nat} (h : (hth l j).di = d) : ∀ m, j < m → 1 ≤ hitsH l d m
  | 0, hj => absurd hj (Nat.not_lt_zero _)
  | m + 1, hj => by
    rcases Nat.lt_or_ge j m with h2 | h2
    · have := hitsH_one h m h2
      rw [hitsH]; omega
    · obtain rfl : m = j := by omega
      rw [hitsH_yes h]; omega
def allH (ws : List WorkD) (d : Int) : Nat → Nat
  | 0 => 0
  | j + 1 => allH ws d j + hitsH (wk ws j).he d (wk ws j).he.length
theorem allH_succ {ws : List WorkD} {d : Int} {j : Nat} {D : WorkD} {c e m : Nat} (hD : wk ws j = D) (hc : allH ws d j = c) (hm : D.he.length = m) (he : e = c + hitsH D.he d m) : allH ws d (j + 1) = e := by
  rw [allH, hD, hc, hm, he]
theorem cntH_allH {n : Nat} {ws : List WorkD} {d : Int} (hw : ∀ k, k < n → WMay (wk ws k)) : ∀ j, j ≤ n → cntH ws d j ≤ allH ws d j
  | 0, _ => Nat.le_refl _
  | j + 1, hj => by
    have h1 := cntH_allH (d := d) hw j (by omega)
    rw [cntH, allH]
    split
    · rename_i hk
      have h2 : kposH (wk ws j).he d < (wk ws j).he.length ∧ (hth (wk ws j).he (kposH (wk ws j).he d)).di = d := dec_iff.1 hk
      have := hitsH_one h2.2 _ h2.1
      omega
    · omega
theorem allH_le {n : Nat} {ws : List WorkD} {d : Int} (hw : ∀ k, k < n → WMay (wk ws k)) : ∀ j, j ≤ n → allH ws d j ≤ j * 1024
  | 0, _ => Nat.le_refl _
  | j + 1, hj => by
    have h1 := allH_le (d := d) hw j (by omega)
    have h2 := (hw j (by omega)).hel
    have h3 := hitsH_le (wk ws j).he d (wk ws j).he.length
    rw [allH]; omega
theorem quo_w (n : Nat) (w : World) (h : isS (n : Int) = true) : Calls Try.prog 11 #[.int .i64 n] w fun e w' => e = .returned (.int .i64 (2 * (((n : Int) - 1) / 3) + 1)) ∧ w = w' := by
  have hb := isS_bd h
  have e : (n : Int) / 3 = ((n : Int) - 1) / 3 := by have := isS_iff.1 h; omega
  rw [← e]
  exact ref2_Quo n w (by omega) (by omega)
/-- A held batch, in the book. -/
theorem book_at {book : List BatchD} {d : Int} {b : BatchD} {q : Nat} (h : InBook book d b) (hq : d - 1 = (q : Int)) : q < book.length ∧ book.getD q default = b := by
  obtain ⟨h1, h2, h3⟩ := h
  have hl : q < book.length := by omega
  refine ⟨hl, ?_⟩
  have e : d.toNat - 1 = q := by omega
  unfold bkth at h3
  rw [e] at h3
  rw [← h3]
  simp only [List.getD_eq_getElem?_getD, List.getElem?_eq_getElem hl, Option.getD_some]
theorem nth_memW {l : List Int} {j : Nat} (h : j < l.length) : nth l j ∈ l := by
  have : nth l j = l.getD j 0 ∨ nth l j = l.getD j default := by first | exact .inl rfl | exact .inr rfl
  unfold nth
  simp only [List.getD_eq_getElem?_getD, List.getElem?_eq_getElem h, Option.getD_some]
  exact List.getElem_mem h
end Go.Proofs.Ytgfakefcmbpboaa
