/- Answers written over: held batches, workers. -/
import Derived.Test.YtgfakefcmbpboaaGreatSuWs
namespace Go.Proofs.YtgfakefcmbpboaaGreat
set_option linter.all false
set_option maxRecDepth 100000
open Go.RowKit

/-- Element j of a deep row of k cells in block g, whose list lies at offset o: the list is one's own, whatever it holds. -/
def InT (w : World) (B g k o : Nat) (t : TypeId) (kt j : Nat) : Prop := ∃ x : SlP, w.cell? ⟨g, j * k + o, none⟩ = some (.slice x.A x.n x.c) ∧ RowT w B t kt x ∧ x.n ≤ 1000000
theorem InT.keep {S : TypeId → Prop} {w w' : World} {B g k o : Nat} {t tr : TypeId} {kt j : Nat} {cur : Array Value} (h : InT w B g k o t kt j) (hk : KeepS S w w') (hg : w.heap[g]? = some (.cells cur tr (0, 0))) (hS : ¬ S tr) : InT w' B g k o t kt j := by
  obtain ⟨x, h1, h2, h3⟩ := h
  refine ⟨x, ?_, h2.keep hk, h3⟩
  obtain ⟨c', e1, e2, e3⟩ := hk g cur tr hg
  rw [e3 hS] at e1
  rw [← h1]
  unfold World.cell?
  simp only [hg, e1]
theorem InT.other {w w' : World} {B g k o : Nat} {t : TypeId} {kt j : Nat} {S : TypeId → Prop} (h : InT w B g k o t kt j) (hk : KeepS S w w') (hc : w'.cell? ⟨g, j * k + o, none⟩ = w.cell? ⟨g, j * k + o, none⟩) : InT w' B g k o t kt j := by
  obtain ⟨x, h1, h2, h3⟩ := h
  exact ⟨x, hc.trans h1, h2.keep hk, h3⟩
/-- A deep row of one's own, whatever it holds. -/
def RowD (w : World) (B : Nat) (tr : TypeId) (k o : Nat) (t : TypeId) (kt : Nat) (s : SlP) : Prop := (s.v = .slice none 0 0) ∨ ∃ g cur, s.A = some ⟨g, 0, none⟩ ∧ B ≤ g ∧ w.heap[g]? = some (.cells cur tr (0, 0)) ∧ s.n ≤ s.c ∧ s.c ≤ maxLen ∧ cur.size = s.c * k ∧ ∀ j, j < s.n → InT w B g k o t kt j
theorem RowD.keep {S : TypeId → Prop} {w w' : World} {B k o : Nat} {tr t : TypeId} {kt : Nat} {s : SlP} (h : RowD w B tr k o t kt s) (hk : KeepS S w w') (hS : ¬ S tr) : RowD w' B tr k o t kt s := by
  rcases h with h | ⟨g, cur, e, hb, hg, h1, h2, h3, h4⟩
  · exact .inl h
  · obtain ⟨c', k1, k2, k3⟩ := hk g cur tr hg
    exact .inr ⟨g, c', e, hb, k1, h1, h2, by omega, fun j hj => (h4 j hj).keep hk hg hS⟩
theorem own_sl {w : World} {B k n : Nat} {t : TypeId} {v : Value} {xs : List Value} (h : w.ownsRow B t k v n xs) : ∃ s : SlP, v = s.v ∧ s.n = n ∧ RowT w B t k s := by
  rcases h.2 with ⟨e, e2⟩ | ⟨g, cap, cur, e, hb, hg, h1, h2, h3, _⟩
  · exact ⟨⟨none, 0, 0⟩, e, e2.symm, .inl rfl⟩
  · exact ⟨⟨some ⟨g, 0, none⟩, n, cap⟩, e, rfl, .inr ⟨g, cur, rfl, hb, hg, h1, h2, by rw [h3]⟩⟩
theorem OwnHs.rowD {w : World} {B : Nat} {s : SlP} {l : List HeldD} (h : OwnHs w B s.v l) (hs : ∀ x ∈ l, x.b.tx.length ≤ 1000000) : RowD w B 101 4 3 41 4 s := by
  obtain ⟨ps, h1, h2, h3⟩ := h
  rcases h1.2 with ⟨e, _⟩ | ⟨g, cap, cur, e, hb, hg, a1, a2, a3, a4⟩
  · exact .inl e
  · unfold SlP.v at e
    injection e with e1 e2 e3
    refine .inr ⟨g, cur, e1, hb, hg, by omega, by omega, by rw [a3, e3]; rfl, fun j hj => ?_⟩
    have hjl : j < l.length := by omega
    have hin : OwnX w B (ps.getD j default) (l.getD j default).b.tx := h3 j hjl
    obtain ⟨x, hx1, hx2, hx3⟩ := own_sl hin
    refine ⟨x, ?_, hx3, by rw [hx2]; exact hs _ (getD_mem hjl)⟩
    have := World.ownsRow.cells h1 (g := g) (by unfold SlP.v; rw [e1]; rfl) (j * 4 + 3) (.slice x.A x.n x.c) (by have h9 := dcells_at dHeld h2 hjl (r := 3) (by show 3 < 4; omega); rw [show j * 4 + 3 = j * dHeld.k + 3 from rfl, h9]; show some (ps.getD j default) = _; rw [hx1]; rfl)
    simpa [Addr.add_lit] using this
theorem OwnWs.rowD {w : World} {B : Nat} {s : SlP} {l : List WaitD} (h : OwnWs w B s.v l) (hs : ∀ x ∈ l, x.ak.length ≤ 1000000) : RowD w B 56 2 1 3 1 s := by
  obtain ⟨ps, h1, h2, h3⟩ := h
  rcases h1.2 with ⟨e, _⟩ | ⟨g, cap, cur, e, hb, hg, a1, a2, a3, a4⟩
  · exact .inl e
  · unfold SlP.v at e
    injection e with e1 e2 e3
    refine .inr ⟨g, cur, e1, hb, hg, by omega, by omega, by rw [a3, e3]; rfl, fun j hj => ?_⟩
    have hjl : j < l.length := by omega
    have hin : OwnI w B (ps.getD j default) (l.getD j default).ak := h3 j hjl
    obtain ⟨x, hx1, hx2, hx3⟩ := own_sl hin
    refine ⟨x, ?_, hx3, by rw [hx2]; exact hs _ (getD_mem hjl)⟩
    have := World.ownsRow.cells h1 (g := g) (by unfold SlP.v; rw [e1]; rfl) (j * 2 + 1) (.slice x.A x.n x.c) (by have h9 := dcells_at dWait h2 hjl (r := 1) (by show 1 < 2; omega); rw [show j * 2 + 1 = j * dWait.k + 1 from rfl, h9]; show some (ps.getD j default) = _; rw [hx1]; rfl)
    simpa [Addr.add_lit] using this
set_option maxHeartbeats 4000000 in
theorem law0_HeldsS (s : SlP) (B : Nat) (w : World) (hr : RowD w B 101 4 3 41 4 s) (hn : s.n ≤ 1000000) (hB : B ≤ w.heap.size) :
    Calls Tryz.prog 106 #[.slice s.A s.n s.c] w fun e w' => e = .returned (.tuple #[]) ∧ Below B w w' ∧ KeepS (fun t => t = 41 ∨ t = 101) w w' := by
  obtain ⟨A, n, c⟩ := s
  dsimp only at hn ⊢
  rcases hr with h | ⟨g, cur, h0, hgB, hg, h1, h2, h3, h4⟩
  · unfold SlP.v at h
    injection h with e1 e2 e3
    subst e1; subst e2; subst e3
    go_enter Tryz.func106, Tryz.ntmps106
    go_wp2_with fail
    go_loop [2] (fun i => i = .int .i64 0) (fun _ => 0)
    case atStart => rfl
    case round =>
      obtain rfl := hrel
      go_wp2_with fail
      go_end0
      exact ⟨rfl, Below.refl _ _, .refl _ _⟩
  · dsimp only at h0 h1 h2 h3 h4
    subst h0
    go_enter Tryz.func106, Tryz.ntmps106
    go_wp2_with fail
    go_loopw [2] (fun i wr => ∃ (k : Nat) (cr : Array Value), k ≤ n ∧ i = .int .i64 k ∧ wr.heap[g]? = some (.cells cr 101 (0, 0)) ∧ cr.size = c * 4 ∧ Hid (∀ j, k ≤ j → j < n → InT wr B g 4 3 41 4 j) ∧ Below B w wr ∧ KeepS (fun t => t = 41 ∨ t = 101) w wr) (fun i _ => n - (intOf i).toNat)
    case atStart => exact ⟨0, cur, by omega, rfl, hg, h3, ħ (fun j _ hj => h4 j hj), Below.refl _ _, .refl _ _⟩
    case round =>
      obtain ⟨k, cr, hk, rfl, hgr, hcr, HIN, hbw, hkw⟩ := hrel
      (obtain ⟨wk, hwk⟩ : ∃ x, x = wr := ⟨_, rfl⟩); subst hwk
      have HG := ħ hgr
      have HK := ħ hkw
      have HB := ħ hbw
      have hBk : B ≤ wk.heap.size := Nat.le_trans hB hbw.size
      by_cases hlt : k < n
      · obtain ⟨⟨xA, xn, xc⟩, hx1, hx2, hx3⟩ := HIN.out k (Nat.le_refl _) hlt
        dsimp only at hx1 hx3
        have hgl : g < wk.heap.size := (Array.getElem?_eq_some_iff.1 hgr).1
        have HX := ħ hx2
        clear hgr hkw hbw hx2
        go_wp2_with fail
        refine (law0_TxsS ⟨xA, xn, xc⟩ B _ HX.out hx3 hBk).mono ?_
        rintro e w5 ⟨rfl, hb5, hk5⟩
        obtain ⟨cr5, hg5, hs5, he5⟩ := hk5 g cr 101 HG.out
        have e5 := he5 (by decide)
        rw [e5] at hg5
        have hin5 : ∀ j, k ≤ j → j < n → InT w5 B g 4 3 41 4 j := fun j hj1 hj2 => (HIN.out j hj1 hj2).keep hk5 HG.out (by decide)
        have hk5' : KeepS (fun t => t = 41 ∨ t = 101) wk w5 := hk5.weak (fun t h => .inl h)
        have hB5 : Below B w w5 := HB.out.trans hb5
        obtain ⟨u0, hu0⟩ : ∃ u, w5.cell? ⟨g, k * 4, none⟩ = some u := ⟨cr[k * 4]'(by omega), by simp [World.cell?, hg5, show k * 4 < cr.size by omega]⟩
        obtain ⟨u1, hu1⟩ : ∃ u, w5.cell? ⟨g, k * 4 + 1, none⟩ = some u := ⟨cr[k * 4 + 1]'(by omega), by simp [World.cell?, hg5, show k * 4 + 1 < cr.size by omega]⟩
        obtain ⟨u2, hu2⟩ : ∃ u, w5.cell? ⟨g, k * 4 + 2, none⟩ = some u := ⟨cr[k * 4 + 2]'(by omega), by simp [World.cell?, hg5, show k * 4 + 2 < cr.size by omega]⟩
        obtain ⟨u3, hu3⟩ : ∃ u, w5.cell? ⟨g, k * 4 + 3, none⟩ = some u := ⟨cr[k * 4 + 3]'(by omega), by simp [World.cell?, hg5, show k * 4 + 3 < cr.size by omega]⟩
        have hf : ∀ o, w5.frozen? ⟨g, o, none⟩ = false := fun o => by simp [World.frozen?, hg5]
        have hgl5 : g < w5.heap.size := (Array.getElem?_eq_some_iff.1 hg5).1
        obtain ⟨c', hc1, hc2, hc3, hc4⟩ := keep_put4 hg5 hB5 hgB (k * 4) (k * 4 + 1) (k * 4 + 2) (k * 4 + 3) (.int .i64 (-9)) (.int .i64 0) (.int .i64 0) (.slice none 0 0)
        have hin6 : ∀ j, k + 1 ≤ j → j < n → InT ((((w5.setCell ⟨g, k * 4, none⟩ (.int .i64 (-9))).setCell ⟨g, k * 4 + 1, none⟩ (.int .i64 0)).setCell ⟨g, k * 4 + 2, none⟩ (.int .i64 0)).setCell ⟨g, k * 4 + 3, none⟩ (.slice none 0 0)) B g 4 3 41 4 j := fun j hj1 hj2 => (hin5 j (by omega) hj2).other hc3 (by
          rw [World.cell?_setCell_other (h := by intro e; simp only [Addr.mk.injEq] at e; omega), World.cell?_setCell_other (h := by intro e; simp only [Addr.mk.injEq] at e; omega), World.cell?_setCell_other (h := by intro e; simp only [Addr.mk.injEq] at e; omega), World.cell?_setCell_other (h := by intro e; simp only [Addr.mk.injEq] at e; omega)])
        have H1 := ħ hc1
        have H2 := ħ hc2
        have H3 := ħ (HK.out.trans (hk5'.trans (hc3.weak (fun t h => .inr h))))
        have H4 := ħ hc4
        have H6 := ħ hin6
        clear hc1 hc2 hc3 hc4 hin5 hin6 hb5 hk5 hk5' he5 e5 hx1 hs5 hg5 HX
        go_wp2_with fail
        (first | (go_round; (case rel => exact ⟨k + 1, c', by omega, by go_num, H1.out, by (rw [H2.out]; exact hcr), H6, H4.out, H3.out⟩); (case measure => (simp [intOf] <;> omega))) | (go_roundw; (case rel => exact ⟨k + 1, c', by omega, by go_num, H1.out, by (rw [H2.out]; exact hcr), H6, H4.out, H3.out⟩); (case measure => (simp [intOf] <;> omega))) | (refine ⟨?_, by simp [intOf] <;> omega⟩; (repeat apply Exists.intro); refine ⟨?rel, ?fr⟩; (case fr => ((repeat' apply And.intro) <;> rfl)); (case rel => exact ⟨k + 1, c', by omega, by go_num, H1.out, by (rw [H2.out]; exact hcr), H6, H4.out, H3.out⟩)))
      · clear hgr
        go_wp2_with fail
        go_end0
        exact ⟨rfl, HB.out, HK.out⟩
/-- What a worker written over may turn. -/
def SWork (t : TypeId) : Prop := t = 41 ∨ t = 101 ∨ t = 3 ∨ t = 56
set_option maxHeartbeats 4000000 in
theorem law0_WorkerS (P : WorkP) (D : WorkD) (B : Nat) (w : World) (h : WorkO w B P D) (h1 : P.op.n ≤ 1000000) (h2 : P.wa.n ≤ 1000000) (h3 : P.he.n ≤ 1000000) (h4 : P.re.n ≤ 1000000) (g1 : ∀ x ∈ D.wa, x.ak.length ≤ 1000000) (g2 : ∀ x ∈ D.he, x.b.tx.length ≤ 1000000) (hB : B ≤ w.heap.size) :
    Calls Tryz.prog 63 #[P.val D] w fun e w' => e = .returned (.tuple #[]) ∧ Below B w w' ∧ KeepS SWork w w' := by
  have hop : RowT w B 41 4 P.op := own_rowT h.op
  have hwa : RowD w B 56 2 1 3 1 P.wa := h.wa.rowD g1
  have hhe : RowD w B 101 4 3 41 4 P.he := h.he.rowD g2
  have hrr : RowT w B 3 1 P.re := own_rowT h.re
  obtain ⟨⟨oA, on, oc⟩, ⟨tA, tn, tc⟩, ⟨eA, en, ec⟩, ⟨rA, rn, rc⟩⟩ := P
  have HOP := ħ hop
  have HWA := ħ hwa
  have HHE := ħ hhe
  have HRR := ħ hrr
  dsimp only at h1 h2 h3 h4
  clear h hop hwa hhe hrr g1 g2
  show Calls Tryz.prog 63 #[.agg #[.int .i64 D.id, .int .i64 D.nodes, .int .i64 D.next, .slice oA on oc, .int .i64 D.age, .int .i64 D.clock, .slice tA tn tc, .slice eA en ec, .slice rA rn rc]] w _
  go_enter Tryz.func63, Tryz.ntmps63
  have hbX : Below w.heap.size w (w.alloc (.cells #[.int .i64 D.id, .int .i64 D.nodes, .int .i64 D.next, .slice oA on oc, .int .i64 D.age, .int .i64 D.clock, .slice tA tn tc, .slice eA en ec, .slice rA rn rc] 27)) := belA
  have hX : Blk (w.alloc (.cells #[.int .i64 D.id, .int .i64 D.nodes, .int .i64 D.next, .slice oA on oc, .int .i64 D.age, .int .i64 D.clock, .slice tA tn tc, .slice eA en ec, .slice rA rn rc] 27)) w.heap.size 27 [.int .i64 D.id, .int .i64 D.nodes, .int .i64 D.next, .slice oA on oc, .int .i64 D.age, .int .i64 D.clock, .slice tA tn tc, .slice eA en ec, .slice rA rn rc] := Blk.new w 27 [.int .i64 D.id, .int .i64 D.nodes, .int .i64 D.next, .slice oA on oc, .int .i64 D.age, .int .i64 D.clock, .slice tA tn tc, .slice eA en ec, .slice rA rn rc]
  go_upto_region 1 with fail
  generalize (w.alloc (.cells #[.int .i64 D.id, .int .i64 D.nodes, .int .i64 D.next, .slice oA on oc, .int .i64 D.age, .int .i64 D.clock, .slice tA tn tc, .slice eA en ec, .slice rA rn rc] 27)) = X at *
  obtain ⟨N, hN⟩ : ∃ N, N = w.heap.size := ⟨_, rfl⟩
  rw [← hN] at hX ⊢
  clear hN
  have hkX : KeepS SWork w X := .of_below hbX
  have HX := ħ hX
  have HBX := ħ (hbX.mono hB)
  have HKX := ħ hkX
  have hBX : B ≤ X.heap.size := Nat.le_trans hB hbX.size
  have a_0 := (hX.box).2 0 _ rfl; have a_1 := (hX.box).2 1 _ rfl; have a_2 := (hX.box).2 2 _ rfl; have a_3 := (hX.box).2 3 _ rfl; have a_4 := (hX.box).2 4 _ rfl; have a_5 := (hX.box).2 5 _ rfl; have a_6 := (hX.box).2 6 _ rfl; have a_7 := (hX.box).2 7 _ rfl; have a_8 := (hX.box).2 8 _ rfl
  have hXl := hX.lt
  clear hX hkX
  go_wp2_with fail
  refine (law0_TxsS ⟨oA, on, oc⟩ B _ (HOP.out.keep HKX.out) h1 hBX).mono ?_
  rintro e w1 ⟨rfl, hb1, hk1⟩
  have hX1 : Blk w1 N 27 [.int .i64 D.id, .int .i64 D.nodes, .int .i64 D.next, .slice oA on oc, .int .i64 D.age, .int .i64 D.clock, .slice tA tn tc, .slice eA en ec, .slice rA rn rc] := by
    obtain ⟨c', k1, k2, k3⟩ := hk1 N _ 27 HX.out
    rw [k3 (by decide)] at k1; exact k1
  have HK1 : Hid (KeepS SWork w w1) := ħ (HKX.out.trans (hk1.weak (fun t h => .inl h)))
  have hkt : KeepS (· = 41) w w1 := (KeepS.of_below hbX).trans hk1
  have HB1 := ħ (HBX.out.trans hb1)
  have HX1 := ħ hX1
  have hB1 : B ≤ w1.heap.size := Nat.le_trans hBX hb1.size
  have hX1l := hX1.lt
  clear a_0 a_1 a_2 a_3 a_4 a_5 a_6 a_7 a_8 hXl hb1 hk1 HX HKX HBX
  have a_0 := (hX1.box).2 0 _ rfl; have a_1 := (hX1.box).2 1 _ rfl; have a_2 := (hX1.box).2 2 _ rfl; have a_3 := (hX1.box).2 3 _ rfl; have a_4 := (hX1.box).2 4 _ rfl; have a_5 := (hX1.box).2 5 _ rfl; have a_6 := (hX1.box).2 6 _ rfl; have a_7 := (hX1.box).2 7 _ rfl; have a_8 := (hX1.box).2 8 _ rfl
  clear hX1
  have HWA1 := ħ (HWA.out.keep hkt (by decide))
  have HKT := ħ hkt
  clear hkt
  go_wp2_with fail
  go_loopw [2] (fun iv wr => ∃ (k : Nat), k ≤ tn ∧ iv = .int .i64 k ∧ Hid (tn = 0 ∨ ∃ (gw : Nat) (cr : Array Value), tA = some ⟨gw, 0, none⟩ ∧ B ≤ gw ∧ wr.heap[gw]? = some (.cells cr 56 (0, 0)) ∧ tn ≤ tc ∧ cr.size = tc * 2 ∧ ∀ j, k ≤ j → j < tn → InT wr B gw 2 1 3 1 j) ∧ Hid (Blk wr N 27 [.int .i64 D.id, .int .i64 D.nodes, .int .i64 D.next, .slice oA on oc, .int .i64 D.age, .int .i64 D.clock, .slice tA tn tc, .slice eA en ec, .slice rA rn rc]) ∧ Below B w wr ∧ KeepS (fun t => t = 41 ∨ t = 3 ∨ t = 56) w wr) (fun iv _ => tn - (intOf iv).toNat)
  case atStart =>
    refine ⟨0, Nat.zero_le _, rfl, ħ ?_, HX1, HB1.out, HKT.out.weak (fun t h => .inl h)⟩
    rcases HWA1.out with hw | ⟨gw, cw, e0, hgB, hg, l1, l2, l3, l4⟩
    · unfold SlP.v at hw
      injection hw with e1 e2 e3
      exact .inl e2
    · exact .inr ⟨gw, cw, e0, hgB, hg, l1, l3, fun j _ hj => l4 j hj⟩
  case round =>
    clear HX1 HB1 HK1 HWA1 HKT hX1l a_0 a_1 a_2 a_3 a_4 a_5 a_6 a_7 a_8
    obtain ⟨k, hk, rfl, HR, HX, hbw, hkw⟩ := hrel
    (obtain ⟨wk, hwk⟩ : ∃ x, x = wr := ⟨_, rfl⟩); subst hwk
    have HB := ħ hbw
    have HK := ħ hkw
    have hBk : B ≤ wk.heap.size := Nat.le_trans hB hbw.size
    have hXl := HX.out.lt
    have a_0 := (HX.out.box).2 0 _ rfl; have a_1 := (HX.out.box).2 1 _ rfl; have a_2 := (HX.out.box).2 2 _ rfl; have a_3 := (HX.out.box).2 3 _ rfl; have a_4 := (HX.out.box).2 4 _ rfl; have a_5 := (HX.out.box).2 5 _ rfl; have a_6 := (HX.out.box).2 6 _ rfl; have a_7 := (HX.out.box).2 7 _ rfl; have a_8 := (HX.out.box).2 8 _ rfl
    by_cases hlt : k < tn
    · rcases HR.out with h0 | ⟨gw, cr, e0, hgB, hg, l1, l3, l4⟩
      · exact absurd h0 (by omega)
      · subst e0
        obtain ⟨⟨xA, xn, xc⟩, hx1, hx2, hx3⟩ := l4 k (Nat.le_refl _) hlt
        dsimp only at hx1 hx3
        have hgl : gw < wk.heap.size := (Array.getElem?_eq_some_iff.1 hg).1
        have HXX := ħ hx2
        have HG := ħ hg
        have HL4 := ħ l4
        clear hbw hkw hx2 hg l4
        go_wp2_with fail
        refine (law0_NumbersS ⟨xA, xn, xc⟩ B _ HXX.out hx3 hBk).mono ?_
        rintro e w5 ⟨rfl, hb5, hk5⟩
        obtain ⟨cr5, hg5, hs5, he5⟩ := hk5 gw cr 56 HG.out
        have e5 := he5 (by decide)
        rw [e5] at hg5
        have hX5 : Blk w5 N 27 [.int .i64 D.id, .int .i64 D.nodes, .int .i64 D.next, .slice oA on oc, .int .i64 D.age, .int .i64 D.clock, .slice (some ⟨gw, 0, none⟩) tn tc, .slice eA en ec, .slice rA rn rc] := by
          obtain ⟨c', k1, k2, k3⟩ := hk5 N _ 27 HX.out
          rw [k3 (by decide)] at k1; exact k1
        have hin5 : ∀ j, k ≤ j → j < tn → InT w5 B gw 2 1 3 1 j := fun j hj1 hj2 => (HL4.out j hj1 hj2).keep hk5 HG.out (by decide)
        have hk5' : KeepS (fun t => t = 41 ∨ t = 3 ∨ t = 56) wk w5 := hk5.weak (fun t h => .inr (.inl h))
        have hB5 : Below B w w5 := HB.out.trans hb5
        obtain ⟨u0, hu0⟩ : ∃ u, w5.cell? ⟨gw, k * 2, none⟩ = some u := ⟨cr[k * 2]'(by omega), by simp [World.cell?, hg5, show k * 2 < cr.size by omega]⟩
        obtain ⟨u1, hu1⟩ : ∃ u, w5.cell? ⟨gw, k * 2 + 1, none⟩ = some u := ⟨cr[k * 2 + 1]'(by omega), by simp [World.cell?, hg5, show k * 2 + 1 < cr.size by omega]⟩
        have hf : ∀ o, w5.frozen? ⟨gw, o, none⟩ = false := fun o => by simp [World.frozen?, hg5]
        have hgl5 : gw < w5.heap.size := (Array.getElem?_eq_some_iff.1 hg5).1
        obtain ⟨c', hc1, hc2, hc3, hc4⟩ := keep_put2 hg5 hB5 hgB (k * 2) (k * 2 + 1) (.int .i64 (-9)) (.slice none 0 0)
        have hin6 : ∀ j, k + 1 ≤ j → j < tn → InT ((w5.setCell ⟨gw, k * 2, none⟩ (.int .i64 (-9))).setCell ⟨gw, k * 2 + 1, none⟩ (.slice none 0 0)) B gw 2 1 3 1 j := fun j hj1 hj2 => (hin5 j (by omega) hj2).other hc3 (by
          rw [World.cell?_setCell_other (h := by intro e; simp only [Addr.mk.injEq] at e; omega), World.cell?_setCell_other (h := by intro e; simp only [Addr.mk.injEq] at e; omega)])
        have hX6 : Blk ((w5.setCell ⟨gw, k * 2, none⟩ (.int .i64 (-9))).setCell ⟨gw, k * 2 + 1, none⟩ (.slice none 0 0)) N 27 [.int .i64 D.id, .int .i64 D.nodes, .int .i64 D.next, .slice oA on oc, .int .i64 D.age, .int .i64 D.clock, .slice (some ⟨gw, 0, none⟩) tn tc, .slice eA en ec, .slice rA rn rc] := by
          obtain ⟨c9, k1, k2, k3⟩ := hc3 N _ 27 hX5
          rw [k3 (by decide)] at k1; exact k1
        have H1 := ħ hc1
        have H2 := ħ (hc2.trans (show cr.size = tc * 2 from l3))
        have H3 := ħ (HK.out.trans (hk5'.trans (hc3.weak (fun t h => .inr (.inr h)))))
        have H4 := ħ hc4
        have H6 := ħ hin6
        have HX5l := hX5.lt
        clear a_0 a_1 a_2 a_3 a_4 a_5 a_6 a_7 a_8
        have a_0 := (hX5.box).2 0 _ rfl; have a_1 := (hX5.box).2 1 _ rfl; have a_2 := (hX5.box).2 2 _ rfl; have a_3 := (hX5.box).2 3 _ rfl; have a_4 := (hX5.box).2 4 _ rfl; have a_5 := (hX5.box).2 5 _ rfl; have a_6 := (hX5.box).2 6 _ rfl; have a_7 := (hX5.box).2 7 _ rfl; have a_8 := (hX5.box).2 8 _ rfl
        clear hc1 hc2 hc3 hc4 hin5 hin6 hb5 hk5 hk5' he5 e5 hx1 hs5 hg5 HXX HG HL4 hX5
        go_wp2_with fail
        (first | (go_round; (case rel => exact ⟨k + 1, by omega, by go_num, ħ (.inr ⟨gw, c', rfl, hgB, H1.out, l1, H2.out, H6.out⟩), ħ hX6, H4.out, H3.out⟩); (case measure => (simp [intOf] <;> omega))) | (go_roundw; (case rel => exact ⟨k + 1, by omega, by go_num, ħ (.inr ⟨gw, c', rfl, hgB, H1.out, l1, H2.out, H6.out⟩), ħ hX6, H4.out, H3.out⟩); (case measure => (simp [intOf] <;> omega))) | (refine ⟨?_, by simp [intOf] <;> omega⟩; (repeat apply Exists.intro); refine ⟨?rel, ?fr⟩; (case fr => ((repeat' apply And.intro) <;> rfl)); (case rel => exact ⟨k + 1, by omega, by go_num, ħ (.inr ⟨gw, c', rfl, hgB, H1.out, l1, H2.out, H6.out⟩), ħ hX6, H4.out, H3.out⟩)))
    · clear hbw hkw
      go_wp2_with fail
      refine (law0_HeldsS ⟨eA, en, ec⟩ B _ (HHE.out.keep HK.out (by decide)) h3 hBk).mono ?_
      rintro e w6 ⟨rfl, hb6, hk6⟩
      have hX6 : Blk w6 N 27 [.int .i64 D.id, .int .i64 D.nodes, .int .i64 D.next, .slice oA on oc, .int .i64 D.age, .int .i64 D.clock, .slice tA tn tc, .slice eA en ec, .slice rA rn rc] := by
        obtain ⟨c', k1, k2, k3⟩ := hk6 N _ 27 HX.out
        rw [k3 (by decide)] at k1; exact k1
      have HK6 : Hid (KeepS SWork w w6) := ħ ((HK.out.weak (fun t h => h.elim .inl (fun h => h.elim (fun h => .inr (.inr (.inl h))) (fun h => .inr (.inr (.inr h)))))).trans (hk6.weak (fun t h => h.elim .inl (fun h => .inr (.inl h)))))
      have HB6 := ħ (HB.out.trans hb6)
      have hB6 : B ≤ w6.heap.size := Nat.le_trans hBk hb6.size
      have hX6l := hX6.lt
      clear a_0 a_1 a_2 a_3 a_4 a_5 a_6 a_7 a_8 hb6 hk6
      have a_0 := (hX6.box).2 0 _ rfl; have a_1 := (hX6.box).2 1 _ rfl; have a_2 := (hX6.box).2 2 _ rfl; have a_3 := (hX6.box).2 3 _ rfl; have a_4 := (hX6.box).2 4 _ rfl; have a_5 := (hX6.box).2 5 _ rfl; have a_6 := (hX6.box).2 6 _ rfl; have a_7 := (hX6.box).2 7 _ rfl; have a_8 := (hX6.box).2 8 _ rfl
      clear hX6
      go_wp2_with fail
      refine (law0_NumbersS ⟨rA, rn, rc⟩ B _ (HRR.out.keep HK6.out) h4 hB6).mono ?_
      rintro e w7 ⟨rfl, hb7, hk7⟩
      go_wp2_with fail
      go_end0
      exact ⟨rfl, HB6.out.trans hb7, HK6.out.trans (hk7.weak (fun t h => .inr (.inr (.inl h))))⟩
end Go.Proofs.YtgfakefcmbpboaaGreat
