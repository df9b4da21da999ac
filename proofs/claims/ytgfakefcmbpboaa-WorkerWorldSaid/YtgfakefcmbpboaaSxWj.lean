/- A worker of one's own, at the program. -/
import Derived.Test.YtgfakefcmbpboaaSxWi
import Derived.Deep.CutBlock
import Derived.Deep.RegionWith
namespace Go.Proofs.Ytgfakefcmbpboaa
open Go.RowKit
set_option linter.unusedSimpArgs false
set_option linter.unusedVariables false

theorem own_nz {w : World} {B k n : Nat} {t : TypeId} {A : Option Addr} {c : Nat} {xs : List Value} (h : w.ownsRow B t k (.slice A n c) n xs) (hn : 0 < n) : ∃ g, A = some ⟨g, 0, none⟩ ∧ B ≤ g ∧ g < w.heap.size := by
  rcases own_shape h with ⟨_, h0⟩ | ⟨g, c', e, hg, _⟩
  · omega
  · injection e with e1 e2 e3
    subst e1
    exact ⟨g, rfl, hg, (own_lt h g rfl).2⟩
theorem grown_at {w : World} {g o : Nat} {x : Value} : w.grownBy (w.setCell ⟨g, o, none⟩ x) (some g) :=
  ⟨rfl, rfl, rfl, by simp, fun k hk hne => Below.heap_setCell _ _ _ _ (by show k ≠ g; intro e; exact hne (by rw [e]))⟩
theorem own_setT {w : World} {B B' k k' n n' g o : Nat} {t t' : TypeId} {u v x : Value} {xs ys : List Value} (h : w.ownsRow B t k u n xs) (hv : w.ownsRow B' t' k' v n' ys) (hne : t ≠ t') (hg : v.ownBlock = some g) : (w.setCell ⟨g, o, none⟩ x).ownsRow B t k u n xs :=
  own_farT h hv hne (by rw [hg]; exact grown_at)
theorem OwnHs.setW {w : World} {B B' n' g o : Nat} {u v x : Value} {l : List HeldD} {ys : List Value} (h : OwnHs w B u l) (hv : w.ownsRow B' 84 2 v n' ys) (hg : v.ownBlock = some g) : OwnHs (w.setCell ⟨g, o, none⟩ x) B u l := by
  obtain ⟨ps, h1, h2, h3⟩ := h
  exact ⟨ps, own_setT h1 hv (by decide) hg, h2, fun j hj => own_setT (h3 j hj) hv (by decide) hg⟩
theorem dcells_set {α β : Type} [Inhabited α] [Inhabited β] (T : DeepT α β) {l : List α} {ps : List β} {i r : Nat} {u : Value} {p : β} (h : ps.length = l.length) (hi : i < l.length) (hr : r < T.k) (he : T.enc (l.getD i default) p = (T.enc (l.getD i default) (ps.getD i default)).set r u) : (dcells T l ps).set (i * T.k + r) u = dcells T l (ps.set i p) := by
  have hl := dcells_len T h
  have hl2 := dcells_len T (l := l) (ps := ps.set i p) (by simp [h])
  apply List.ext_getElem?
  intro q
  have hk := T.k0
  by_cases hq : q < l.length * T.k
  · have hqd : q / T.k < l.length := Nat.div_lt_of_lt_mul (by rw [Nat.mul_comm]; exact hq)
    have hqr : q % T.k < T.k := Nat.mod_lt _ hk
    have hqq : q = (q / T.k) * T.k + q % T.k := by have := Nat.div_add_mod q T.k; rw [Nat.mul_comm] at this; omega
    have e2 := dcells_at T (l := l) (ps := ps.set i p) (by simp [h]) hqd hqr
    have e1 := dcells_at T h hqd hqr
    rw [← hqq] at e1 e2
    rw [e2]
    by_cases hi2 : q / T.k = i
    · have hg : (ps.set i p).getD (q / T.k) default = p := by simp [hi2, show i < ps.length by omega]
      rw [hg, hi2, he]
      by_cases hr2 : q % T.k = r
      · have : i * T.k + r = q := by rw [← hi2, ← hr2]; exact hqq.symm
        rw [this, List.getElem?_set, if_pos rfl, if_pos (by omega), hr2, List.getElem?_set, if_pos rfl, if_pos (by rw [T.len]; exact hr)]
      · have hne : i * T.k + r ≠ q := by intro e; apply hr2; rw [hqq, hi2] at e; omega
        rw [List.getElem?_set, if_neg hne, e1, hi2, List.getElem?_set, if_neg (fun e => hr2 e.symm)]
    · have hg : (ps.set i p).getD (q / T.k) default = ps.getD (q / T.k) default := by
        simp only [List.getD_eq_getElem?_getD]; rw [List.getElem?_set, if_neg (fun e => hi2 e.symm)]
      have hne : i * T.k + r ≠ q := by
        intro e
        apply hi2
        rw [← e, Nat.add_comm, Nat.add_mul_div_right _ _ hk, Nat.div_eq_of_lt hr, Nat.zero_add]
      rw [hg, List.getElem?_set, if_neg hne, e1]
  · rw [List.getElem?_eq_none (by simp [hl]; omega), List.getElem?_eq_none (by rw [hl2]; omega)]
theorem set9 {w : World} {g : Nat} {cs : List Value} {t : TypeId} (h : Blk w g t cs) (hl : cs.length = 9) (a0 a1 a2 a3 a4 a5 a6 a7 a8 : Value) : Blk (((((((((w.setCell ⟨g, 0, none⟩ a0).setCell ⟨g, 1, none⟩ a1).setCell ⟨g, 2, none⟩ a2).setCell ⟨g, 3, none⟩ a3).setCell ⟨g, 4, none⟩ a4).setCell ⟨g, 5, none⟩ a5).setCell ⟨g, 6, none⟩ a6).setCell ⟨g, 7, none⟩ a7).setCell ⟨g, 8, none⟩ a8) g t [a0, a1, a2, a3, a4, a5, a6, a7, a8] := by
  obtain ⟨x0, x1, x2, x3, x4, x5, x6, x7, x8, rfl⟩ := list9 hl
  exact ((((((((h.set_ 0 a0).set_ 1 a1).set_ 2 a2).set_ 3 a3).set_ 4 a4).set_ 5 a5).set_ 6 a6).set_ 7 a7).set_ 8 a8
set_option maxRecDepth 100000 in
set_option maxHeartbeats 8000000 in
theorem worker_Own (P : WorkP) (D : WorkD) (w : World) (h : WorkR w P D) (hs : BigD D) :
    Calls Try.prog 22 #[P.val D] w fun e w' => ∃ P', e = .returned (P'.val D) ∧ WorkO w' w.heap.size P' D ∧ (∃ B2, w.heap.size ≤ B2 ∧ (∀ q, P'.op.v.ownBlock = some q → q < B2) ∧ OwnHs w' B2 P'.he.v D.he) ∧ Below w.heap.size w w' := by
  obtain ⟨⟨oA, on, oc⟩, ⟨tA, tn, tc⟩, ⟨eA, en, ec⟩, ⟨rA, rn, rc⟩⟩ := P
  have HO : Hid (TxsR w oA on D.op) := Lib.hid h.op
  have HT : Hid (WaitsR w tA tn D.wa) := Lib.hid h.wa
  have HE : Hid (HeldsR w eA en D.he) := Lib.hid h.he
  have HR : Hid (IntsR w rA rn D.re) := Lib.hid h.re
  have hon : on ≤ 800000000 := by rw [← HO.out.1]; exact hs.op
  have hrn : rn ≤ 800000000 := by rw [← HR.out.1]; exact hs.re
  have htn : tn ≤ 800000000 := by rw [← HT.out.1]; exact hs.wa.1
  have HS := Lib.hid hs
  clear h hs
  show Calls Try.prog 22 #[.agg #[.int .i64 D.id, .int .i64 D.nodes, .int .i64 D.next, .slice oA on oc, .int .i64 D.age, .int .i64 D.clock, .slice tA tn tc, .slice eA en ec, .slice rA rn rc]] w _
  go_enter Try.func22, Try.ntmps22
  go_upto_region 1 with fail
  go_cut [] from 4 to 16 (fun wx => ∃ vo vr vh B2, Blk wx w.heap.size 27 [.int .i64 D.id, .int .i64 D.nodes, .int .i64 D.next, vo, .int .i64 D.age, .int .i64 D.clock, .slice tA tn tc, vh, vr] ∧ Blk wx (w.heap.size + 1) 27 [.int .i64 0, .int .i64 0, .int .i64 0, .slice none 0 0, .int .i64 0, .int .i64 0, .slice none 0 0, .slice none 0 0, .slice none 0 0] ∧ OwnX wx (w.heap.size + 2) vo D.op ∧ OwnI wx (w.heap.size + 2) vr D.re ∧ OwnHs wx B2 vh D.he ∧ w.heap.size + 2 ≤ B2 ∧ (∀ q, vo.ownBlock = some q → q < B2) ∧ Below w.heap.size w wx)
  case first =>
    have hX1 : Blk ((w.alloc (.cells #[.int .i64 D.id, .int .i64 D.nodes, .int .i64 D.next, .slice oA on oc, .int .i64 D.age, .int .i64 D.clock, .slice tA tn tc, .slice eA en ec, .slice rA rn rc] 27)).alloc (.cells #[.int .i64 0, .int .i64 0, .int .i64 0, .slice none 0 0, .int .i64 0, .int .i64 0, .slice none 0 0, .slice none 0 0, .slice none 0 0] 27)) w.heap.size 27 [.int .i64 D.id, .int .i64 D.nodes, .int .i64 D.next, .slice oA on oc, .int .i64 D.age, .int .i64 D.clock, .slice tA tn tc, .slice eA en ec, .slice rA rn rc] := (Blk.new w 27 [.int .i64 D.id, .int .i64 D.nodes, .int .i64 D.next, .slice oA on oc, .int .i64 D.age, .int .i64 D.clock, .slice tA tn tc, .slice eA en ec, .slice rA rn rc]).up (belA)
    have hX2 : Blk ((w.alloc (.cells #[.int .i64 D.id, .int .i64 D.nodes, .int .i64 D.next, .slice oA on oc, .int .i64 D.age, .int .i64 D.clock, .slice tA tn tc, .slice eA en ec, .slice rA rn rc] 27)).alloc (.cells #[.int .i64 0, .int .i64 0, .int .i64 0, .slice none 0 0, .int .i64 0, .int .i64 0, .slice none 0 0, .slice none 0 0, .slice none 0 0] 27)) (w.heap.size + 1) 27 [.int .i64 0, .int .i64 0, .int .i64 0, .slice none 0 0, .int .i64 0, .int .i64 0, .slice none 0 0, .slice none 0 0, .slice none 0 0] := by
      have := Blk.new (w.alloc (.cells #[.int .i64 D.id, .int .i64 D.nodes, .int .i64 D.next, .slice oA on oc, .int .i64 D.age, .int .i64 D.clock, .slice tA tn tc, .slice eA en ec, .slice rA rn rc] 27)) 27 [.int .i64 0, .int .i64 0, .int .i64 0, .slice none 0 0, .int .i64 0, .int .i64 0, .slice none 0 0, .slice none 0 0, .slice none 0 0]
      simpa using this
    have hbX : Below w.heap.size w ((w.alloc (.cells #[.int .i64 D.id, .int .i64 D.nodes, .int .i64 D.next, .slice oA on oc, .int .i64 D.age, .int .i64 D.clock, .slice tA tn tc, .slice eA en ec, .slice rA rn rc] 27)).alloc (.cells #[.int .i64 0, .int .i64 0, .int .i64 0, .slice none 0 0, .int .i64 0, .int .i64 0, .slice none 0 0, .slice none 0 0, .slice none 0 0] 27)) := belA
    have hzX : ((w.alloc (.cells #[.int .i64 D.id, .int .i64 D.nodes, .int .i64 D.next, .slice oA on oc, .int .i64 D.age, .int .i64 D.clock, .slice tA tn tc, .slice eA en ec, .slice rA rn rc] 27)).alloc (.cells #[.int .i64 0, .int .i64 0, .int .i64 0, .slice none 0 0, .int .i64 0, .int .i64 0, .slice none 0 0, .slice none 0 0, .slice none 0 0] 27)).heap.size = w.heap.size + 2 := by simp
    generalize ((w.alloc (.cells #[.int .i64 D.id, .int .i64 D.nodes, .int .i64 D.next, .slice oA on oc, .int .i64 D.age, .int .i64 D.clock, .slice tA tn tc, .slice eA en ec, .slice rA rn rc] 27)).alloc (.cells #[.int .i64 0, .int .i64 0, .int .i64 0, .slice none 0 0, .int .i64 0, .int .i64 0, .slice none 0 0, .slice none 0 0, .slice none 0 0] 27)) = X at *
    have g_0 := (hX1.box).2 0 _ rfl; have g_1 := (hX1.box).2 1 _ rfl; have g_2 := (hX1.box).2 2 _ rfl; have g_3 := (hX1.box).2 3 _ rfl; have g_4 := (hX1.box).2 4 _ rfl; have g_5 := (hX1.box).2 5 _ rfl; have g_6 := (hX1.box).2 6 _ rfl; have g_7 := (hX1.box).2 7 _ rfl; have g_8 := (hX1.box).2 8 _ rfl
    have hff := hX1.frozen
    have hl1 := hX1.lt
    have HX1 := Lib.hid hX1
    have HX2 := Lib.hid hX2
    have hzX2 : w.heap.size + 2 ≤ X.heap.size := by omega
    clear hX1 hX2 hzX
    go_region_with (first
      | (go_at_call 45; refine (clone_Txs oA on oc D.op _ (HO.out.up (belA)) (by omega)).mono ?_; rintro e wo ⟨vo, rfl, ho1, hbO⟩; obtain ⟨Ao, co, rfl, _⟩ := ho1.txs (by rw [HO.out.1]; omega); have hzO := hbO.size; (try simp at hzO); have hcO := fun o => (bcell hbO).1 w.heap.size o (by first | (simp; done) | (simp; omega) | omega); have hfO := fun o => (bcell hbO).2 w.heap.size o (by first | (simp; done) | (simp; omega) | omega); rw [HO.out.1] at ho1 ⊢; have HO1 := Lib.hid ho1; clear ho1)
      | (go_at_call 46; refine (cloneO_Ints rA rn rc D.re _ (HR.out.up (belA)) (by omega)).mono ?_; rintro e wi ⟨vr, rfl, hr1, hbI⟩; obtain ⟨Ar, cr, rfl, _⟩ := hr1.ints (by rw [HR.out.1]; omega); have hzI := hbI.size; (try simp at hzI); have hcI := fun o => (bcell hbI).1 w.heap.size o (by first | (simp; done) | (simp; omega) | omega); have hfI := fun o => (bcell hbI).2 w.heap.size o (by first | (simp; done) | (simp; omega) | omega); rw [HR.out.1] at hr1 ⊢; have HR1 := Lib.hid hr1; clear hr1)
      | (go_at_call 47; refine (worker_OwnHeld eA en ec D.he _ (HE.out.up (belA)) HS.out.he).mono ?_; rintro e wh ⟨vh, rfl, hh1, hbH⟩; obtain ⟨Ah, ch, rfl, _⟩ := hh1.helds HS.out.he; have hzH := hbH.size; (try simp at hzH); have hcH := fun o => (bcell hbH).1 w.heap.size o (by first | (simp; done) | (simp; omega) | omega); have hfH := fun o => (bcell hbH).2 w.heap.size o (by first | (simp; done) | (simp; omega) | omega); rw [HE.out.1] at hh1 ⊢; have HH1 := Lib.hid hh1; clear hh1))
    all_goals
      go_wp2_with fail
      go_meet
      have hb1 : Below X.heap.size X wh := belA
      have k1 := ((HX1.out.up hb1).set_ 3 (.slice Ao on co)).set_ 8 (.slice Ar rn cr) |>.set_ 7 (.slice Ah en ch)
      have k2 := (((HX2.out.up hb1).far (p := ⟨w.heap.size, 3, none⟩) (by simp) (.slice Ao on co)).far (p := ⟨w.heap.size, 8, none⟩) (by simp) (.slice Ar rn cr)).far (p := ⟨w.heap.size, 7, none⟩) (by simp) (.slice Ah en ch)
      have q1 : OwnX wh (w.heap.size + 2) (.slice Ao on co) D.op := (((HO1.out.mono (B' := w.heap.size + 2) (by first | omega | (simp; omega))).up hbI).up hbH)
      have q2 : OwnI wh (w.heap.size + 2) (.slice Ar rn cr) D.re := ((HR1.out.mono (B' := w.heap.size + 2) (by first | omega | (simp; omega))).up hbH)
      have hB2 : ∃ B2, OwnHs wh B2 (.slice Ah en ch) D.he ∧ wi.heap.size ≤ B2 := ⟨_, HH1.out, by simp⟩
      obtain ⟨B2, q3, hB2⟩ := hB2
      have hB3 : w.heap.size + 2 ≤ B2 := by first | omega | (have := hbI.size; have := hbO.size; simp at *; omega)
      have hB4 : ∀ q, (Value.slice Ao on co).ownBlock = some q → q < B2 := fun q hq => by have h1 := (own_lt HO1.out q hq).2; have h2 := hbI.size; (try simp at h2); omega
      exact ⟨_, _, _, B2, k1, k2, ((q1.set3 (by omega) _).set3 (by omega) _).set3 (by omega) _, ((q2.low (by omega) _).low (by omega) _).low (by omega) _, ((q3.low (by omega)).low (by omega)).low (by omega), hB3, hB4, belB⟩
  case rest =>
  obtain ⟨vo, vr, vh, B2, hx1, hx2, hqo, hqr, hqh, hB2, hB4, hb⟩ := hcut
  obtain ⟨Ao, co, rfl, _⟩ := hqo.txs (by rw [HO.out.1]; omega)
  obtain ⟨Ar, cr, rfl, _⟩ := hqr.ints (by rw [HR.out.1]; omega)
  obtain ⟨Ah, ch, rfl, _⟩ := hqh.helds HS.out.he
  rw [HO.out.1] at hqo hx1 hB4
  rw [HR.out.1] at hqr hx1
  rw [HE.out.1] at hqh hx1
  obtain ⟨qs, hqs1, hqs2, hqs3⟩ := HT.out.rows
  have hone : ∀ p ∈ qs, p.oneCell' = true := fun p hp => by
    obtain ⟨j, hj, rfl⟩ := List.getElem_of_mem hp
    obtain ⟨B, m, c, e, _⟩ := hqs3 j (by rw [← HT.out.1, ← hqs1]; exact hj)
    rw [show qs[j] = qs.getD j default by simp [hj], e]; rfl
  have HQ1 := Lib.hid hqs1
  have HQ2 := Lib.hid hqs2
  have HQ3 := Lib.hid hqs3
  have HONE := Lib.hid hone
  obtain ⟨u, hu⟩ : ∃ u, u = wc := ⟨_, rfl⟩
  subst hu
  have HX1 := Lib.hid hx1
  have HX2 := Lib.hid hx2
  have HQO := Lib.hid hqo
  have HQR := Lib.hid hqr
  have HQH := Lib.hid hqh
  have HB4 := Lib.hid hB4
  have hg1 := hx1.lt
  have hf1 := hx1.frozen
  have hg2 := hx2.lt
  have g_0 := (hx1.box).2 0 _ rfl; have g_1 := (hx1.box).2 1 _ rfl; have g_2 := (hx1.box).2 2 _ rfl; have g_3 := (hx1.box).2 3 _ rfl; have g_4 := (hx1.box).2 4 _ rfl; have g_5 := (hx1.box).2 5 _ rfl; have g_6 := (hx1.box).2 6 _ rfl; have g_7 := (hx1.box).2 7 _ rfl; have g_8 := (hx1.box).2 8 _ rfl
  clear hqs1 hqs2 hqs3 hone hx1 hx2 hqo hqr hqh hB4
  go_wp2_with fail
  refine (slices_Clone_Wait tA tn tc (dcells dWait D.wa qs) _ (HQ2.out.up hb) (dcells_oneW HONE.out) (by omega)).mono ?_
  rintro e u1 ⟨v1, rfl, hrow, hb1⟩
  obtain ⟨A1, c1, rfl, _⟩ := own_row hrow (by omega)
  have hX1 := HX1.out.up hb1
  have hX2 := HX2.out.up hb1
  have hzu : w.heap.size + 2 ≤ u.heap.size := by omega
  have hfX1 := hX1.frozen
  have hlX1 := hX1.lt
  have HROW : Hid ((u1.setCell ⟨w.heap.size, 6, none⟩ (.slice A1 tn c1)).ownsRow (w.heap.size + 2) 84 2 (.slice A1 tn c1) tn (dcells dWait D.wa qs)) := Lib.hid (own_set3 (own_mono hrow hzu) (by omega) _)
  have HY1 := Lib.hid (hX1.set_ 6 (.slice A1 tn c1))
  have HY2 := Lib.hid (hX2.far (p := ⟨w.heap.size, 6, none⟩) (by simp) (.slice A1 tn c1))
  have HYO := Lib.hid ((HQO.out.up hb1).set3 (b := w.heap.size) (o := 6) (by omega) (.slice A1 tn c1))
  have HYR := Lib.hid ((HQR.out.up hb1).low (b := w.heap.size) (o := 6) (by omega) (.slice A1 tn c1))
  have HYH := Lib.hid ((HQH.out.up hb1).low (b := w.heap.size) (o := 6) (u := .slice A1 tn c1) (by omega))
  have hbY : Below w.heap.size w (u1.setCell ⟨w.heap.size, 6, none⟩ (.slice A1 tn c1)) := belB
  have k_0 := (hX1.box).2 0 _ rfl; have k_1 := (hX1.box).2 1 _ rfl; have k_2 := (hX1.box).2 2 _ rfl; have k_3 := (hX1.box).2 3 _ rfl; have k_4 := (hX1.box).2 4 _ rfl; have k_5 := (hX1.box).2 5 _ rfl; have k_6 := (hX1.box).2 6 _ rfl; have k_7 := (hX1.box).2 7 _ rfl; have k_8 := (hX1.box).2 8 _ rfl
  clear g_0 g_1 g_2 g_3 g_4 g_5 g_6 g_7 g_8 hX1 hX2 hrow
  go_wp2_with fail
  clear k_0 k_1 k_2 k_3 k_4 k_5 k_6 k_7 k_8
  go_loopw [23] (fun si wr => ∃ (i : Nat) (ps : List Value), i ≤ tn ∧ si = .int .i64 i ∧ Hid (ps.length = D.wa.length) ∧ Hid (wr.ownsRow (w.heap.size + 2) 84 2 (.slice A1 tn c1) tn (dcells dWait D.wa ps)) ∧ Hid (∀ j, j < i → OwnI wr (w.heap.size + 2) (ps.getD j default) (D.wa.getD j default).ak) ∧ Hid (∀ j, i ≤ j → j < tn → ps.getD j default = qs.getD j default) ∧ Hid (Blk wr w.heap.size 27 [.int .i64 D.id, .int .i64 D.nodes, .int .i64 D.next, .slice Ao on co, .int .i64 D.age, .int .i64 D.clock, .slice A1 tn c1, .slice Ah en ch, .slice Ar rn cr]) ∧ Hid (Blk wr (w.heap.size + 1) 27 [.int .i64 0, .int .i64 0, .int .i64 0, .slice none 0 0, .int .i64 0, .int .i64 0, .slice none 0 0, .slice none 0 0, .slice none 0 0]) ∧ Hid (OwnX wr (w.heap.size + 2) (.slice Ao on co) D.op) ∧ Hid (OwnI wr (w.heap.size + 2) (.slice Ar rn cr) D.re) ∧ Hid (OwnHs wr B2 (.slice Ah en ch) D.he) ∧ Below w.heap.size w wr) (fun si _ => tn - (intOf si).toNat)
  case atStart => exact ⟨0, qs, Nat.zero_le _, rfl, HQ1, HROW, Lib.hid (fun j hj => absurd hj (by omega)), Lib.hid (fun j _ _ => rfl), HY1, HY2, HYO, HYR, HYH, hbY⟩
  case round =>
    clear HROW HY1 HY2 HYO HYR HYH hbY
    obtain ⟨i, ps, hi, rfl, HPL, HROW, HIN, HEQ, HY1, HY2, HYO, HYR, HYH, hbw⟩ := hrel
    (obtain ⟨wk, hwk⟩ : ∃ x, x = wr := ⟨_, rfl⟩); subst hwk
    have hlk := HY1.out.lt
    have hfk := HY1.out.frozen
    have hlk2 := HY2.out.lt
    have k_0 := (HY1.out.box).2 0 _ rfl; have k_1 := (HY1.out.box).2 1 _ rfl; have k_2 := (HY1.out.box).2 2 _ rfl; have k_3 := (HY1.out.box).2 3 _ rfl; have k_4 := (HY1.out.box).2 4 _ rfl; have k_5 := (HY1.out.box).2 5 _ rfl; have k_6 := (HY1.out.box).2 6 _ rfl; have k_7 := (HY1.out.box).2 7 _ rfl; have k_8 := (HY1.out.box).2 8 _ rfl
    by_cases hlt : i < tn
    · obtain ⟨g, eA1, hgB, hgl⟩ := own_nz HROW.out (by omega)
      subst eA1
      obtain ⟨B, m, d, eq, hak⟩ := HQ3.out i hlt
      have hpi : ps.getD i default = .slice B m d := (HEQ.out i (Nat.le_refl _) hlt).trans eq
      have hil : i < D.wa.length := by rw [HT.out.1]; exact hlt
      obtain ⟨gg, fg⟩ := own_get HROW.out
      have cA : wk.cell? ⟨g, i * 2 + 1, none⟩ = some (.slice B m d) := gg _ _ (by rw [show i * 2 + 1 = i * dWait.k + 1 from rfl, dcells_at dWait HPL.out hil (by show 1 < 2; omega), hpi]; rfl)
      have hm : m ≤ 800000000 := by rw [← hak.1]; exact HS.out.wa.2 _ (getD_mem hil)
      have HAK := Lib.hid (hak.up hbw)
      have HPI := Lib.hid hpi
      have hg1x : w.heap.size ≠ g := by omega
      have HIL := Lib.hid hil
      clear gg eq hak hpi hil
      go_wp2_with fail
      go_region_with (go_at_call 46; refine (cloneO_Ints B m d (D.wa.getD i default).ak _ (HAK.out.up (belA)) (by omega)).mono ?_; rintro e wi ⟨vr, rfl, hr1, hbI⟩; obtain ⟨Ai, ci, rfl, _⟩ := hr1.ints (by rw [HAK.out.1]; omega); have hzI := hbI.size; (try simp at hzI); have hcI := fun o => (bcell hbI).1 w.heap.size o (by first | (simp; done) | (simp; omega) | omega); have hcG := fun o => (bcell hbI).1 g o (by first | (simp; done) | (simp; omega) | omega); have hfG := fun o => (bcell hbI).2 g o (by first | (simp; done) | (simp; omega) | omega); have hfI := fun o => (bcell hbI).2 w.heap.size o (by first | (simp; done) | (simp; omega) | omega); rw [HAK.out.1] at hr1 ⊢; have HR1 := Lib.hid hr1; clear hr1)
      all_goals
        have hb2 : Below wk.heap.size wk wi := belA
        have hrow2 := own_up HROW.out hb2
        have hob : (Value.slice (some ⟨g, 0, none⟩) tn c1).ownBlock = some g := rfl
        have hset := own_put (j := i * 2 + 1) (u := .slice Ai m ci) hrow2 (by omega)
        rw [show (dcells dWait D.wa ps).set (i * 2 + 1) (.slice Ai m ci) = dcells dWait D.wa (ps.set i (.slice Ai m ci)) from dcells_set dWait HPL.out HIL.out (by show 1 < 2; omega) rfl] at hset
        have HSET := Lib.hid hset
        have HIN2 : Hid (∀ j, j < i + 1 → OwnI (wi.setCell ⟨g, i * 2 + 1, none⟩ (.slice Ai m ci)) (w.heap.size + 2) ((ps.set i (.slice Ai m ci)).getD j default) (D.wa.getD j default).ak) := Lib.hid (fun j hj => by
          rcases Nat.lt_or_ge j i with q | q
          · rw [show (ps.set i (.slice Ai m ci)).getD j default = ps.getD j default by simp only [List.getD_eq_getElem?_getD]; rw [List.getElem?_set, if_neg (by omega)]]
            exact own_setT ((HIN.out j q).up hb2) hrow2 (by decide) hob
          · obtain rfl : j = i := by omega
            rw [show (ps.set j (.slice Ai m ci)).getD j default = .slice Ai m ci by simp [show j < ps.length by rw [HPL.out]; exact HIL.out]]
            exact own_setT (HR1.out.mono (by first | omega | (simp; omega))) hrow2 (by decide) hob)
        have HEQ2 : Hid (∀ j, i + 1 ≤ j → j < tn → (ps.set i (.slice Ai m ci)).getD j default = qs.getD j default) := Lib.hid (fun j h1 h2 => by
          rw [show (ps.set i (.slice Ai m ci)).getD j default = ps.getD j default by simp only [List.getD_eq_getElem?_getD]; rw [List.getElem?_set, if_neg (by omega)]]
          exact HEQ.out j (by omega) h2)
        have HPL2 : Hid ((ps.set i (.slice Ai m ci)).length = D.wa.length) := Lib.hid (by simp [HPL.out])
        have HZ1 := Lib.hid ((HY1.out.up hb2).far (p := ⟨g, i * 2 + 1, none⟩) hg1x (.slice Ai m ci))
        have HZ2 := Lib.hid ((HY2.out.up hb2).far (p := ⟨g, i * 2 + 1, none⟩) (by show w.heap.size + 1 ≠ g; omega) (.slice Ai m ci))
        have HZO : Hid (OwnX (wi.setCell ⟨g, i * 2 + 1, none⟩ (.slice Ai m ci)) (w.heap.size + 2) (.slice Ao on co) D.op) := Lib.hid (own_setT (HYO.out.up hb2) hrow2 (by decide) hob)
        have HZR : Hid (OwnI (wi.setCell ⟨g, i * 2 + 1, none⟩ (.slice Ai m ci)) (w.heap.size + 2) (.slice Ar rn cr) D.re) := Lib.hid (own_setT (HYR.out.up hb2) hrow2 (by decide) hob)
        have HZH : Hid (OwnHs (wi.setCell ⟨g, i * 2 + 1, none⟩ (.slice Ai m ci)) B2 (.slice Ah en ch) D.he) := Lib.hid ((HYH.out.up hb2).setW hrow2 hob)
        have hbZ : Below w.heap.size w (wi.setCell ⟨g, i * 2 + 1, none⟩ (.slice Ai m ci)) := (bel_trans hbw hb2).setCell (p := ⟨g, i * 2 + 1, none⟩) (by show w.heap.size ≤ g; omega) _
        clear hset hrow2 hob
        go_wp2_with fail
        (first | (go_round; (case rel => exact ⟨i + 1, _, by omega, by go_num, HPL2, HSET, HIN2, HEQ2, HZ1, HZ2, HZO, HZR, HZH, hbZ⟩); (case measure => (simp [intOf] <;> omega))) | (go_roundw; (case rel => exact ⟨i + 1, _, by omega, by go_num, HPL2, HSET, HIN2, HEQ2, HZ1, HZ2, HZO, HZR, HZH, hbZ⟩); (case measure => (simp [intOf] <;> omega))) | (refine ⟨?_, by simp [intOf] <;> omega⟩; (repeat apply Exists.intro); refine ⟨?rel, ?fr⟩; (case fr => ((repeat' apply And.intro) <;> rfl)); (case rel => exact ⟨i + 1, _, by omega, by go_num, HPL2, HSET, HIN2, HEQ2, HZ1, HZ2, HZO, HZR, HZH, hbZ⟩)))
    · have hw : OwnWs wk (w.heap.size + 2) (.slice A1 tn c1) D.wa := ⟨ps, by
        have h1 := HROW.out
        refine ⟨by rw [HT.out.1]; exact h1, HPL.out, fun j hj => HIN.out j (by rw [HT.out.1] at hj; omega)⟩⟩
      have hWO : WorkO wk (w.heap.size + 2) ⟨⟨Ao, on, co⟩, ⟨A1, tn, c1⟩, ⟨Ah, en, ch⟩, ⟨Ar, rn, cr⟩⟩ D := ⟨HYO.out, hw, HYH.out.mono hB2, HYR.out⟩
      have HWO := Lib.hid hWO
      have hf2 := HY2.out.frozen
      have z_0 := (HY2.out.box).2 0 _ rfl; have z_1 := (HY2.out.box).2 1 _ rfl; have z_2 := (HY2.out.box).2 2 _ rfl; have z_3 := (HY2.out.box).2 3 _ rfl; have z_4 := (HY2.out.box).2 4 _ rfl; have z_5 := (HY2.out.box).2 5 _ rfl; have z_6 := (HY2.out.box).2 6 _ rfl; have z_7 := (HY2.out.box).2 7 _ rfl; have z_8 := (HY2.out.box).2 8 _ rfl
      have hR := set9 HY2.out rfl (.int .i64 D.id) (.int .i64 D.nodes) (.int .i64 D.next) (.slice Ao on co) (.int .i64 D.age) (.int .i64 D.clock) (.slice A1 tn c1) (.slice Ah en ch) (.slice Ar rn cr)
      have r_0 := (hR.box).2 0 _ rfl; have r_1 := (hR.box).2 1 _ rfl; have r_2 := (hR.box).2 2 _ rfl; have r_3 := (hR.box).2 3 _ rfl; have r_4 := (hR.box).2 4 _ rfl; have r_5 := (hR.box).2 5 _ rfl; have r_6 := (hR.box).2 6 _ rfl; have r_7 := (hR.box).2 7 _ rfl; have r_8 := (hR.box).2 8 _ rfl
      clear hw hWO hR
      go_wp2_with fail
      exact bodyPost_ret (v := .agg #[.int .i64 D.id, .int .i64 D.nodes, .int .i64 D.next, .slice Ao on co, .int .i64 D.age, .int .i64 D.clock, .slice A1 tn c1, .slice Ah en ch, .slice Ar rn cr]) (by simp [results, Try.results22, go_sem, r_0, r_1, r_2, r_3, r_4, r_5, r_6, r_7, r_8]) rfl ⟨⟨⟨Ao, on, co⟩, ⟨A1, tn, c1⟩, ⟨Ah, en, ch⟩, ⟨Ar, rn, cr⟩⟩, rfl, (by (refine WorkO.mono (B := w.heap.size + 2) ?_ (by omega)); (repeat (first | (with_reducible exact HWO.out) | ((with_reducible refine WorkO.low ?_ ?_); rotate_left; (omega))))), ⟨B2, by omega, HB4.out, (by (show OwnHs _ B2 (.slice Ah en ch) D.he); (repeat (first | (with_reducible exact HYH.out) | ((with_reducible refine OwnHs.low ?_ ?_); rotate_left; (omega)))))⟩, belB⟩
end Go.Proofs.Ytgfakefcmbpboaa
