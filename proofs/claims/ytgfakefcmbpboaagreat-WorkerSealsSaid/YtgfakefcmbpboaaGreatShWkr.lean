/- What is kept by enough is ready, at the page: Step.kept. -/
import Derived.Test.YtgfakefcmbpboaaGreatShWcn
import Derived.Test.YtgfakefcmbpboaaGreatShWsg
namespace Go.Proofs.YtgfakefcmbpboaaGreat
open Go.RowKit
set_option linter.unusedSimpArgs false
set_option linter.unusedVariables false

theorem step_app1 {ops : Array Oper} {o : Oper} {a : Act} {w : World} {K : Act → World → Prop} {Q : Exit → Act → World → Prop} {E : Prop}
    (hg : o.guard = none) (s x : Operand) (ho : o.op = .call { callee := .builtin .append, args := #[s, x], argTypes := #[25, 25] }) (hty : o.type = 25)
    (B : Nat) (v : Value) (l : List Int) (hs : a.eval s = v) (hown : OwnI w B v l) (g : Nat) (y : Int) (hx : a.eval x = .slice (some ⟨g, 0, none⟩) 1 1) (hc : w.cell? ⟨g, 0, none⟩ = some (.int .i64 y))
    (hlen : l.length ≤ 900000000) (hB : B ≤ w.heap.size)
    (h : ∀ v' w', OwnI w' B v' (l ++ [y]) → w.grownBy w' v.ownBlock → Below B w w' → (v'.ownBlock = v.ownBlock ∨ v'.ownBlock = some w.heap.size) → K (a.put o.dst v') w') :
    if Region.wanted o (yielded ops a.tmps) = true then Oper.wp Tryz.prog o a w K Q else E := by
  have hw : Region.wanted o (yielded ops a.tmps) = true := by simp [Region.wanted, hg]
  rw [if_pos hw]
  obtain ⟨v', w', hrun, h2, h3, h4, h5⟩ := run_app_Int w B v l.length (l.map (Value.int .i64)) hown g 0 1 1 [.int .i64 y] rfl
    (fun j u hj => by cases j with
      | zero => simp at hj; subst hj; simpa using hc
      | succ j => simp at hj) (by simp [Value.oneCell']) (by omega) hB
  have hown' : OwnI w' B v' (l ++ [y]) := by unfold OwnI; simpa using h2
  exact Lib.wp_append_run w s x _ _ ho v _ hs hx v' w' (by rw [hty]; exact hrun) (h v' w' hown' h3 h4 h5)
theorem inS_ltC (l : List Int) (x : Int) (y : Bool) (h : memS l x = y) : decide (inS l x < 0) = !y := by
  subst h
  unfold memS
  by_cases hm : x ∈ l
  · have : ¬ inS l x < 0 := fun q => inS_neg.1 q hm
    simp [hm, this]
  · have : inS l x < 0 := inS_neg.2 hm
    simp [hm, this]
theorem isS_quo {n : Int} (h : isS n = true) : n / 3 = (n - 1) / 3 := by have := isS_iff.1 h; omega
theorem ref2_Quo3 (n q : Int) (w : World) (h : isS n = true) (hq : 2 * ((n - 1) / 3) + 1 = q) : Calls Tryz.prog 117 #[.int .i64 n] w fun e w' => e = .returned (.int .i64 q) ∧ w = w' := by
  have hb := isS_bd h
  rw [← hq, ← isS_quo h]
  exact ref2_Quo n w (by omega) (by omega)
theorem blk_grownI {w w' : World} {B g k n : Nat} {t t' : TypeId} {v : Value} {cs xs : List Value} (h : Blk w g t cs) (hv : w.ownsRow B t' k v n xs) (hne : t ≠ t') (hg : w.grownBy w' v.ownBlock) : Blk w' g t cs := blk_grownT h hv hne hg
/-- Nothing that stood there turns but block g and the block rq. -/
structure KB (w w' : World) (g : Nat) (rq : Option Nat) : Prop where
  os : w'.os = w.os
  tape : w'.tape = w.tape
  output : w'.output = w.output
  size : w.heap.size ≤ w'.heap.size
  block : ∀ k, k < w.heap.size → k ≠ g → rq ≠ some k → w'.heap[k]? = w.heap[k]?
theorem KB.refl (w : World) (g : Nat) (rq : Option Nat) : KB w w g rq := ⟨rfl, rfl, rfl, Nat.le_refl _, fun _ _ _ _ => rfl⟩
theorem KB.below {w a b : World} {g n : Nat} {rq : Option Nat} (h : KB w a g rq) (k : Below n a b) (hn : w.heap.size ≤ n) : KB w b g rq := ⟨k.os.trans h.os, k.tape.trans h.tape, k.output.trans h.output, Nat.le_trans h.size k.size, fun i h1 h2 h3 => (k.block i (by omega)).trans (h.block i h1 h2 h3)⟩
theorem KB.grown {w a b : World} {g : Nat} {rq v : Option Nat} (h : KB w a g rq) (k : a.grownBy b v) (hv : v = rq ∨ ∃ q, v = some q ∧ w.heap.size ≤ q) : KB w b g rq := ⟨k.os.trans h.os, k.tape.trans h.tape, k.output.trans h.output, Nat.le_trans h.size k.size, fun i h1 h2 h3 => (k.block i (Nat.lt_of_lt_of_le h1 h.size) (by
  rcases hv with e | ⟨q, e, hq⟩
  · rw [e]; exact fun e2 => h3 e2.symm
  · rw [e]; intro e2; injection e2 with e2; omega)).trans (h.block i h1 h2 h3)⟩
theorem KB.setg {w a : World} {g o : Nat} {rq : Option Nat} {u : Value} (h : KB w a g rq) : KB w (a.setCell ⟨g, o, none⟩ u) g rq := ⟨h.os, h.tape, h.output, by simpa [World.setCell] using h.size, fun k h1 h2 h3 => (Below.heap_setCell _ _ _ _ h2).trans (h.block k h1 h2 h3)⟩
theorem KB.own {w w' : World} {g : Nat} {rq : Option Nat} (h : KB w w' g rq) {B k n : Nat} {t : TypeId} {v : Value} {xs : List Value} (ho : w.ownsRow B t k v n xs) (hg : v.ownBlock ≠ some g) (hr : ∀ q, rq = some q → v.ownBlock ≠ some q) : w'.ownsRow B t k v n xs :=
  own_of_heap ho fun q hq => h.block q (own_lt ho q hq).2 (fun e => hg (by rw [hq, e])) (fun e => hr q e hq)
theorem own_neT {w : World} {B k n g : Nat} {t T : TypeId} {v : Value} {xs cs : List Value} (ho : w.ownsRow B t k v n xs) (hg : Blk w g T cs) (hne : t ≠ T) : v.ownBlock ≠ some g := fun e => by
  obtain ⟨_, c2, e2⟩ := own_typeB ho g e
  have hb' : w.heap[g]? = some (.cells cs.toArray T (0, 0)) := hg
  rw [hb'] at e2
  injection e2 with e2
  injection e2 with _ e3 _
  exact hne e3.symm
theorem own_neO {w : World} {B B2 k k2 n n2 : Nat} {t T : TypeId} {v u : Value} {xs ys : List Value} (ho : w.ownsRow B t k v n xs) (hu : w.ownsRow B2 T k2 u n2 ys) (hne : t ≠ T) : ∀ q, u.ownBlock = some q → v.ownBlock ≠ some q := fun q e1 e2 => by
  obtain ⟨_, c2, h2⟩ := own_typeB ho q e2
  obtain ⟨_, c3, h3⟩ := own_typeB hu q e1
  rw [h2] at h3
  injection h3 with h3
  injection h3 with _ e3 _
  exact hne e3
/-- The lists of what waits lie apart from the block rq. -/
def ApartW (ps : List Value) (l : List WaitD) (rq : Option Nat) : Prop := ∀ j, j < l.length → ∀ q, rq = some q → (ps.getD j default).ownBlock ≠ some q
def QK (w : World) (B : Nat) (rq : Option Nat) (qs : List Value) (l : List WaitD) : Prop := qs.length = l.length ∧ ∀ j, j < l.length → OwnI w B (qs.getD j default) (l.getD j default).ak ∧ ∀ q, rq = some q → (qs.getD j default).ownBlock ≠ some q
theorem qk_snoc {w : World} {B : Nat} {rq : Option Nat} {qs : List Value} {l : List WaitD} {p : Value} {x : WaitD} (h : QK w B rq qs l) (hx : OwnI w B p x.ak ∧ ∀ q, rq = some q → p.ownBlock ≠ some q) : QK w B rq (qs ++ [p]) (l ++ [x]) := by
  obtain ⟨h1, h2⟩ := h
  refine ⟨by simp [h1], fun j hj => ?_⟩
  rw [List.length_append, List.length_singleton] at hj
  rcases Nat.lt_or_ge j l.length with hlt | hge
  · have e1 : (qs ++ [p]).getD j default = qs.getD j default := by simp [List.getElem?_append, h1, hlt]
    have e2 : (l ++ [x]).getD j default = l.getD j default := by simp [List.getElem?_append, hlt]
    rw [e1, e2]; exact h2 j hlt
  · obtain rfl : j = l.length := by omega
    have e1 : (qs ++ [p]).getD l.length default = p := by rw [← h1]; simp
    have e2 : (l ++ [x]).getD l.length default = x := by simp
    rw [e1, e2]; exact hx
set_option maxRecDepth 100000 in
set_option maxHeartbeats 8000000 in
theorem ref13_kept (g B : Nat) (oA tA eA rA uA : Option Addr) (on oc tn tc en ec rn rc un uc : Nat) (D : WorkD) (ps : List Value) (w : World) (hg : Blk w g 70 [.int .i64 D.id, .int .i64 D.nodes, .int .i64 D.next, .slice oA on oc, .int .i64 D.age, .int .i64 D.clock, .slice tA tn tc, .slice eA en ec, .slice rA rn rc, .slice uA un uc]) (hB : B ≤ w.heap.size) (hT : OwnT dWait w B (.slice tA tn tc) ps D.wa) (hR : OwnI w B (.slice rA rn rc) D.re) (hap : ApartW ps D.wa (Value.slice rA rn rc).ownBlock) (hbw : BigW D.wa) (hre : D.re.length + D.wa.length ≤ 800000000) (hris : ∀ x ∈ D.wa, RisesIn x.ak D.nodes) (hns : isS D.nodes = true) :
    Calls Tryz.prog 87 #[.pointer (some ⟨g, 0, none⟩)] w fun e w' => ∃ A1 n1 c1 A2 n2 c2, e = .returned (.tuple #[]) ∧ Blk w' g 70 [.int .i64 D.id, .int .i64 D.nodes, .int .i64 D.next, .slice oA on oc, .int .i64 D.age, .int .i64 D.clock, .slice A1 n1 c1, .slice eA en ec, .slice A2 n2 c2, .slice uA un uc] ∧ KB w w' g (Value.slice rA rn rc).ownBlock ∧ OwnWs w' B (.slice A1 n1 c1) (keptW D.nodes D.wa) ∧ OwnI w' B (.slice A2 n2 c2) (keptR D.nodes D.re D.wa) := by
  have HTN : Hid (D.wa.length = tn) := Lib.hid (by obtain ⟨A', c', e', _⟩ := hT.read; injection e' with _ e2 _; exact e2.symm)
  obtain ⟨q, hq⟩ : ∃ q, 2 * ((D.nodes - 1) / 3) + 1 = q := ⟨_, rfl⟩
  have hn1 := (isS_bd hns).1
  have hn16 := (isS_bd hns).2
  have hq8 : 0 ≤ q ∧ q ≤ 100 := by omega
  have htn : tn ≤ 800000000 := by rw [← HTN.out]; exact hbw.1
  obtain ⟨rq, hrq⟩ : ∃ x, (Value.slice rA rn rc).ownBlock = x := ⟨_, rfl⟩
  rw [hrq] at hap ⊢
  have hneW : ∀ q, rq = some q → (Value.slice tA tn tc).ownBlock ≠ some q := fun q e => own_neO hT.1 (show World.ownsRow _ B 3 1 _ _ _ from hR) (by decide) q (by rw [hrq]; exact e)
  have HNW : Hid ((Value.slice tA tn tc).ownBlock ≠ some g ∧ ∀ q, rq = some q → (Value.slice tA tn tc).ownBlock ≠ some q) := Lib.hid ⟨own_neT hT.1 hg (by decide), hneW⟩
  have HNP : Hid (∀ (wr : World), KB w wr g rq → ∀ j, j < D.wa.length → OwnI wr B (ps.getD j default) (D.wa.getD j default).ak) := Lib.hid (fun wr hk j hj => hk.own (show World.ownsRow _ B 3 1 _ _ _ from hT.2.2 j hj) (own_neT (show World.ownsRow _ B 3 1 _ _ _ from hT.2.2 j hj) hg (by decide)) (fun q e => hap j hj q e))
  have HG := Lib.hid hg
  have HT := Lib.hid hT
  have HQ := Lib.hid hq
  have HRS := Lib.hid hris
  have HRE := Lib.hid hre
  have HBW := Lib.hid hbw
  have HNS := Lib.hid hns
  have HR0 := Lib.hid hR
  have HAP := Lib.hid hap
  have HRQ0 : Hid ((Value.slice rA rn rc).ownBlock = rq ∨ ∃ q, (Value.slice rA rn rc).ownBlock = some q ∧ w.heap.size ≤ q) := Lib.hid (.inl hrq)
  have hgw : g < w.heap.size := hg.lt
  clear hg hT hq hris hre hbw hR hap hns hrq hneW
  go_enter Tryz.func87, Tryz.ntmps87
  go_wp2_with fail
  go_loopw [2, 3] (fun vl iv wr => ∃ (k : Nat) (qs : List Value) (r1A : Option Addr) (r1n r1c : Nat), k ≤ tn ∧ iv = .int .i64 k ∧ Hid (Blk wr g 70 [.int .i64 D.id, .int .i64 D.nodes, .int .i64 D.next, .slice oA on oc, .int .i64 D.age, .int .i64 D.clock, .slice tA tn tc, .slice eA en ec, .slice r1A r1n r1c, .slice uA un uc]) ∧ Hid (OwnI wr B (.slice r1A r1n r1c) (keptR D.nodes D.re (D.wa.take k))) ∧ Hid ((Value.slice r1A r1n r1c).ownBlock = rq ∨ ∃ q, (Value.slice r1A r1n r1c).ownBlock = some q ∧ w.heap.size ≤ q) ∧ Hid (QK w B rq qs (keptW D.nodes (D.wa.take k))) ∧ Hid (wr.ownsRow w.heap.size 56 2 vl (keptW D.nodes (D.wa.take k)).length (dcells dWait (keptW D.nodes (D.wa.take k)) qs)) ∧ KB w wr g rq) (fun _ iv _ => tn - (intOf iv).toNat)
  case atStart => exact ⟨0, [], rA, rn, rc, Nat.zero_le _, rfl, HG, HR0, HRQ0, Lib.hid ⟨rfl, fun j hj => absurd hj (by simp [keptW])⟩, Lib.hid (World.ownsRow_nil _ _ _ _), KB.refl _ _ _⟩
  case round =>
    obtain ⟨k, qs, r1A, r1n, r1c, hk, rfl, HGK, HRR, HRQ, HQS, HROW, hkb⟩ := hrel
    (obtain ⟨wk, hwk⟩ : ∃ x, x = wr := ⟨_, rfl⟩); subst hwk
    obtain ⟨vl, hvl⟩ : ∃ v, v = u2 := ⟨_, rfl⟩
    rw [← hvl] at HROW ⊢
    clear hvl
    have HKB := Lib.hid hkb
    have hsk := hkb.size
    have hglk := HGK.out.lt
    have a_0 := (HGK.out.box).2 0 _ rfl; have a_1 := (HGK.out.box).2 1 _ rfl; have a_2 := (HGK.out.box).2 2 _ rfl; have a_3 := (HGK.out.box).2 3 _ rfl; have a_4 := (HGK.out.box).2 4 _ rfl; have a_5 := (HGK.out.box).2 5 _ rfl; have a_6 := (HGK.out.box).2 6 _ rfl; have a_7 := (HGK.out.box).2 7 _ rfl; have a_8 := (HGK.out.box).2 8 _ rfl; have a_9 := (HGK.out.box).2 9 _ rfl
    clear hkb
    have hlk : (keptW D.nodes (D.wa.take k)).length ≤ 800000000 := by
      refine Nat.le_trans (List.length_filter_le _ _) ?_
      rw [List.length_take]; have := HTN.out; omega
    have hrk : (keptR D.nodes D.re (D.wa.take k)).length ≤ 800000000 := by
      refine Nat.le_trans (keptR_len _ _ _) ?_
      rw [List.length_take]; have := HRE.out; omega
    have HLK := Lib.hid hlk
    obtain ⟨rr, hrr⟩ : ∃ x, keptR D.nodes D.re (D.wa.take k) = x := ⟨_, rfl⟩
    rw [hrr] at HRR hrk
    have HRR0 := Lib.hid hrr
    clear hlk hrr
    by_cases hlt : k < tn
    · have hkl : k < D.wa.length := by rw [HTN.out]; exact hlt
      have hT0 := HKB.out.own HT.out.1 HNW.out.1 HNW.out.2
      rw [HTN.out] at hT0
      obtain ⟨gw, eA, hgwB, hgwl⟩ := own_nz hT0 (by omega)
      subst eA
      obtain ⟨x, hx⟩ : ∃ x, D.wa.getD k default = x := ⟨_, rfl⟩
      obtain ⟨pk, hpk⟩ : ∃ pk, ps.getD k default = pk := ⟨_, rfl⟩
      have hxm : x ∈ D.wa := by rw [← hx]; exact getD_mem hkl
      have hin0 : OwnI w B pk x.ak := by rw [← hpk, ← hx]; exact HT.out.2.2 k hkl
      have hin : OwnI wk B pk x.ak := by rw [← hpk, ← hx]; exact HNP.out wk HKB.out k hkl
      have hsp : ∀ q, rq = some q → pk.ownBlock ≠ some q := by rw [← hpk]; exact HAP.out k hkl
      obtain ⟨Bk, ck, rfl, hik, _⟩ := hin.ints (by have := HBW.out.2 x hxm; omega)
      obtain ⟨m, hm⟩ : ∃ m, x.ak.length = m := ⟨_, rfl⟩
      rw [hm] at hpk hin hin0 hik hsp
      obtain ⟨gg, fg⟩ := own_get hT0
      have c0 : wk.cell? ⟨gw, k * 2, none⟩ = some (.int .i64 x.di) := gg _ _ (by have := dcells_at dWait HT.out.2.1 hkl (r := 0) (by show 0 < 2; omega); rw [show k * 2 = k * dWait.k + 0 from rfl, this, hpk, hx]; rfl)
      have c1 : wk.cell? ⟨gw, k * 2 + 1, none⟩ = some (.slice Bk m ck) := gg _ _ (by have := dcells_at dWait HT.out.2.1 hkl (r := 1) (by show 1 < 2; omega); rw [show k * 2 + 1 = k * dWait.k + 1 from rfl, this, hpk, hx]; rfl)
      have HXR := Lib.hid (HRS.out x hxm)
      have HIN := Lib.hid hin0
      have HSP := Lib.hid hsp
      have HM := Lib.hid hm
      have htk := take_wth D.wa k hkl
      rw [hx] at htk
      have HTK := Lib.hid htk
      have hgwl2 : gw < wk.heap.size := hgwl
      clear hm htk gg fg hT0 hxm hpk hx hsp hin0 hin
      go_upto_region 5 with fail
      have hba : Below wk.heap.size wk (wk.alloc (.cells #[.int .i64 x.di, .slice Bk m ck] 56)) := by (repeat (first | (with_reducible exact Below.refl _ _) | (with_reducible assumption) | (with_reducible apply bel_alloc) | (with_reducible apply bel_drew) | (with_reducible apply bel_drewN) | (with_reducible refine bel_trans ?_ (by with_reducible assumption)) | (with_reducible refine bel_trans ?_ (HF.out _)) | (with_reducible refine bel_set ?_ (by simp) _) | (with_reducible refine bel_set ?_ (by simp; omega) _) | (with_reducible refine bel_set ?_ (by omega) _)))
      have HAA : Hid (Blk (wk.alloc (.cells #[.int .i64 x.di, .slice Bk m ck] 56)) wk.heap.size 56 [.int .i64 x.di, .slice Bk m ck]) := Lib.hid (Blk.new wk 56 [.int .i64 x.di, .slice Bk m ck])
      obtain ⟨g4, hg4⟩ : ∃ z, z = wk.heap.size := ⟨_, rfl⟩
      obtain ⟨wa, hwa⟩ : ∃ Z, Z = wk.alloc (.cells #[.int .i64 x.di, .slice Bk m ck] 56) := ⟨_, rfl⟩
      rw [← hwa, ← hg4] at HAA ⊢
      rw [← hwa] at hba
      have hg4g : g < g4 := by rw [hg4]; exact hglk
      have hswa : w.heap.size ≤ wa.heap.size := Nat.le_trans hsk hba.size
      have hBwa : B ≤ wa.heap.size := Nat.le_trans hB hswa
      have HGA := Lib.hid (HGK.out.up hba)
      have HRA := Lib.hid (HRR.out.up hba)
      have HROWA := Lib.hid (own_up HROW.out hba)
      have HKA := Lib.hid (HKB.out.below hba hsk)
      have HAK : Hid (IntsR wa Bk m x.ak) := Lib.hid (hik.up hba)
      clear hwa hg4 c0 c1 hgwl hgwl2 a_0 a_1 a_2 a_3 a_4 a_5 a_6 a_7 a_8 a_9 hik hba HGK HRR HROW HKB
      obtain ⟨S0, hS0d⟩ : ∃ S0 : World → Prop, S0 = fun Q => Blk Q g4 56 [.int .i64 x.di, .slice Bk m ck] := ⟨_, rfl⟩
      obtain ⟨S, hSd⟩ : ∃ S : World → Prop, S = fun Q => Blk Q g 70 [.int .i64 D.id, .int .i64 D.nodes, .int .i64 D.next, .slice oA on oc, .int .i64 D.age, .int .i64 D.clock, .slice (some ⟨gw, 0, none⟩) tn tc, .slice eA en ec, .slice r1A r1n r1c, .slice uA un uc] ∧ S0 Q := ⟨_, rfl⟩
      have hS1 : ∀ Q, S Q → Q.cell? ⟨g, 1, none⟩ = some (.int .i64 D.nodes) := fun Q h => by rw [hSd] at h; exact h.1.box.2 1 _ rfl
      have hS8 : ∀ Q, S Q → Q.cell? ⟨g, 8, none⟩ = some (.slice r1A r1n r1c) := fun Q h => by rw [hSd] at h; exact h.1.box.2 8 _ rfl
      have hS2 : ∀ Q, S Q → S0 Q := fun Q h => by rw [hSd] at h; exact h.2
      have hSy0 : ∀ Q, S0 Q → Q.cell? ⟨g4, 0, none⟩ = some (.int .i64 x.di) := fun Q h => by rw [hS0d] at h; exact h.box.2 0 _ rfl
      have hSx0 : ∀ Q, S Q → Q.cell? ⟨g4, 0, none⟩ = some (.int .i64 x.di) := fun Q h => hSy0 Q (hS2 Q h)
      have hSx1 : ∀ Q, S Q → Q.cell? ⟨g4, 1, none⟩ = some (.slice Bk m ck) := fun Q h => by rw [hSd, hS0d] at h; exact h.2.box.2 1 _ rfl
      have hS : ∀ Q, Below wa.heap.size wa Q → S Q := fun Q hQ => by rw [hSd, hS0d]; exact ⟨HGA.out.up hQ, HAA.out.up hQ⟩
      have hSG : ∀ (Q : World) (cs : List Value) (_ : Unit) (_ : Unit), Blk Q g 70 cs → Blk Q g4 56 [.int .i64 x.di, .slice Bk m ck] → S0 Q := fun Q cs _ _ _ h => by rw [hS0d]; exact h
      clear hSd hS0d
      by_cases hmq : (m : Int) < q
      · have hd : decide ((m : Int) < q) = true := by simpa using hmq
        have HK1 : Hid (keptW D.nodes (D.wa.take (k + 1)) = keptW D.nodes (D.wa.take k) ++ [x]) := Lib.hid (by
          rw [HTK.out]; unfold keptW; rw [List.filter_append]
          simp [show (x.ak.length : Int) < qS D.nodes by unfold qS; rw [HM.out, HQ.out]; exact hmq])
        have HK2 : Hid (keptR D.nodes D.re (D.wa.take (k + 1)) = keptR D.nodes D.re (D.wa.take k)) := Lib.hid (by
          rw [HTK.out, keptR_snoc, if_pos (by unfold qS; rw [HM.out, HQ.out]; exact hmq)])
        clear hmq
        go_upto_region 5 with fail
        refine wp_region_held_drew (S := S) (by kernel_rfl) (hS _ (bel_drew (Below.refl _ _))) (fun hHeld => ?_)
        have hbd : Below wa.heap.size wa wa.drew := bel_drew (Below.refl _ _)
        have hZ := hHeld
        generalize wa.drew = Z at *
        (refine wpAnyH_tk 0 (some 23) (v := ?_) rfl rfl ?_ ?_; rotate_left; (focus (intro wq hSw; clear hSw; go_simp; all_goals (with_reducible rfl))); simp only [Act.put, List.setIfInBounds_toArray, List.set_cons_zero, List.set_cons_succ])
        (refine wpAnyH_tk 1 (some 24) (v := ?_) rfl rfl ?_ ?_; rotate_left; (focus (intro wq hSw; clear hSw; go_simp; all_goals (with_reducible rfl))); simp only [Act.put, List.setIfInBounds_toArray, List.set_cons_zero, List.set_cons_succ])
        (refine wpAnyH_tk 2 (some 25) (v := ?_) rfl rfl ?_ ?_; rotate_left; (focus (intro wq hSw; clear hSw; go_simp; all_goals (with_reducible rfl))); simp only [Act.put, List.setIfInBounds_toArray, List.set_cons_zero, List.set_cons_succ])
        (refine wpAnyH_tk 3 (some 26) (v := ?_) rfl rfl ?_ ?_; rotate_left; (focus (intro wq hSw; clear hSw; go_simp; all_goals (with_reducible rfl))); simp only [Act.put, List.setIfInBounds_toArray, List.set_cons_zero, List.set_cons_succ])
        (refine wpAnyH_tk 4 (some 27) (v := ?_) rfl rfl ?_ ?_; rotate_left; (focus (intro wq hSw; have q1 := hS1 wq hSw; clear hSw; go_simp; all_goals (with_reducible rfl))); simp only [Act.put, List.setIfInBounds_toArray, List.set_cons_zero, List.set_cons_succ])
        (refine wpAnyH_tk 5 (some 28) (v := ?_) rfl rfl ?_ ?_; rotate_left; (focus (intro wq hSw; clear hSw; go_simp; all_goals (with_reducible rfl))); simp only [Act.put, List.setIfInBounds_toArray, List.set_cons_zero, List.set_cons_succ])
        (refine wpAnyH_tk 6 (some 29) (v := ?_) rfl rfl ?_ ?_; rotate_left; (focus (intro wq hSw; have q1 := hSx1 wq hSw; clear hSw; go_simp; all_goals (with_reducible rfl))); simp only [Act.put, List.setIfInBounds_toArray, List.set_cons_zero, List.set_cons_succ])
        (refine wpAnyH_tk 8 (some 31) (v := ?_) rfl rfl ?_ ?_; rotate_left; (focus (intro wq hSw; clear hSw; go_simp; all_goals (with_reducible rfl))); simp only [Act.put, List.setIfInBounds_toArray, List.set_cons_zero, List.set_cons_succ])
        (refine wpAnyH_tk 9 (some 32) (v := ?_) rfl rfl ?_ ?_; rotate_left; (focus (intro wq hSw; clear hSw; go_simp; all_goals (with_reducible rfl))); simp only [Act.put, List.setIfInBounds_toArray, List.set_cons_zero, List.set_cons_succ])
        (refine wpAnyH_tk 10 (some 33) (v := ?_) rfl rfl ?_ ?_; rotate_left; (focus (intro wq hSw; clear hSw; go_simp; all_goals (with_reducible rfl))); simp only [Act.put, List.setIfInBounds_toArray, List.set_cons_zero, List.set_cons_succ])
        (refine wpAnyH_tk 11 (some 34) (v := ?_) rfl rfl ?_ ?_; rotate_left; (focus (intro wq hSw; clear hSw; go_simp; all_goals (with_reducible rfl))); simp only [Act.put, List.setIfInBounds_toArray, List.set_cons_zero, List.set_cons_succ])
        (refine wpAnyH_tk 12 (some 35) (v := ?_) rfl rfl ?_ ?_; rotate_left; (focus (intro wq hSw; have q1 := hS1 wq hSw; clear hSw; go_simp; all_goals (with_reducible rfl))); simp only [Act.put, List.setIfInBounds_toArray, List.set_cons_zero, List.set_cons_succ])
        refine wpAnyH_ready (rs := [7]) (by kernel_rfl) (by simp) ?_
        refine AllReadyH.cons (o := _) rfl (fun K hK => ?_) AllReadyH.nil
        go_simp
        (go_at_call 116; refine (ref2_Count Bk m ck x.ak D.nodes _ (HAK.out.up hbd) HXR.out (by omega) hn16).mono ?_; rintro e w' ⟨rfl, rfl⟩)
        refine hK.out _ _ (hZ) (fun hHeld => ?_)
        clear hK K
        (try simp only [Act.put, List.setIfInBounds_toArray, List.set_cons_zero, List.set_cons_succ])
        refine wpAnyH_ready (rs := [13]) (by kernel_rfl) (by simp) ?_
        refine AllReadyH.cons (o := _) rfl (fun K hK => ?_) AllReadyH.nil
        go_simp
        (go_at_call 117; refine (ref2_Quo3 D.nodes q _ HNS.out HQ.out).mono ?_; rintro e w' ⟨rfl, rfl⟩)
        refine hK.out _ _ (hZ) (fun hHeld => ?_)
        clear hK K
        (try simp only [Act.put, List.setIfInBounds_toArray, List.set_cons_zero, List.set_cons_succ])
        (refine wpAnyH_tk 14 (some 37) (v := ?_) rfl rfl ?_ ?_; rotate_left; (focus (intro wq hSw; clear hSw; go_simp; all_goals (with_reducible rfl))); simp only [Act.put, List.setIfInBounds_toArray, List.set_cons_zero, List.set_cons_succ])
        refine wpAnyH_done (by kernel_rfl) ?_ _
        have HZB := Lib.hid hbd
        clear hS hS1 hS2 hS8 hSx0 hSx1 hSG hHeld hZ
        have hgz := HGA.out.up hbd
        have haz := HAA.out.up hbd
        have hgl := hgz.lt
        have hal := haz.lt
        have b_0 := (haz.box).2 0 _ rfl; have b_1 := (haz.box).2 1 _ rfl
        have e_0 := (hgz.box).2 0 _ rfl; have e_1 := (hgz.box).2 1 _ rfl; have e_2 := (hgz.box).2 2 _ rfl; have e_3 := (hgz.box).2 3 _ rfl; have e_4 := (hgz.box).2 4 _ rfl; have e_5 := (hgz.box).2 5 _ rfl; have e_6 := (hgz.box).2 6 _ rfl; have e_7 := (hgz.box).2 7 _ rfl; have e_8 := (hgz.box).2 8 _ rfl; have e_9 := (hgz.box).2 9 _ rfl
        have hBX : BoxR (Z.alloc (.cells #[.int .i64 x.di, .slice Bk m ck] 56)) Z.heap.size [.int .i64 x.di, .slice Bk m ck] := BoxR.new Z [.int .i64 x.di, .slice Bk m ck] 56
        have HBX := Lib.hid hBX
        have hba2 : Below wa.heap.size wa (Z.alloc (.cells #[.int .i64 x.di, .slice Bk m ck] 56)) := bel_alloc hbd
        have HBA2 := Lib.hid hba2
        have hsz2 : w.heap.size ≤ (Z.alloc (.cells #[.int .i64 x.di, .slice Bk m ck] 56)).heap.size := Nat.le_trans hswa hba2.size
        clear hgz haz hBX hba2
        go_wp2_with (at_builtin; refine wpList_appWt rfl (.tmp 38) (.tmp 40) rfl rfl w.heap.size vl _ _ rfl (own_up HROWA.out HBA2.out) _ [.int .i64 x.di, .slice Bk m ck] rfl rfl (fun j u hu => HBX.out.2 j u hu) (by simp [Value.oneCell']) (by have := HLK.out; omega) hsz2 ?_; intro v5 w5 hown5 hg5 hb5)
        have hG5 : Blk w5 g 70 [.int .i64 D.id, .int .i64 D.nodes, .int .i64 D.next, .slice oA on oc, .int .i64 D.age, .int .i64 D.clock, .slice (some ⟨gw, 0, none⟩) tn tc, .slice eA en ec, .slice r1A r1n r1c, .slice uA un uc] := (HGA.out.up HBA2.out).below hb5 hgw
        have ho5 : OwnI w5 B (.slice r1A r1n r1c) rr := own_farT (show World.ownsRow _ B 3 1 _ _ _ from HRA.out.up HBA2.out) (own_up HROWA.out HBA2.out) (by decide) hg5
        have hkb5 := (HKA.out.below HBA2.out hswa).below hb5 (Nat.le_refl _)
        (first | (go_round; (case rel => exact ⟨k + 1, qs ++ [.slice Bk m ck], r1A, r1n, r1c, by omega, by go_num, Lib.hid hG5, by (rw [HK2.out, HRR0.out]; exact Lib.hid ho5), HRQ, by (rw [HK1.out]; exact Lib.hid (qk_snoc HQS.out ⟨HIN.out, HSP.out⟩)), by (rw [HK1.out]; exact Lib.hid (row_snoc HQS.out.1 hown5)), hkb5⟩); (case measure => (simp [intOf] <;> omega))) | (go_roundw; (case rel => exact ⟨k + 1, qs ++ [.slice Bk m ck], r1A, r1n, r1c, by omega, by go_num, Lib.hid hG5, by (rw [HK2.out, HRR0.out]; exact Lib.hid ho5), HRQ, by (rw [HK1.out]; exact Lib.hid (qk_snoc HQS.out ⟨HIN.out, HSP.out⟩)), by (rw [HK1.out]; exact Lib.hid (row_snoc HQS.out.1 hown5)), hkb5⟩); (case measure => (simp [intOf] <;> omega))) | (refine ⟨?_, by simp [intOf] <;> omega⟩; (repeat apply Exists.intro); refine ⟨?rel, ?fr⟩; (case fr => ((repeat' apply And.intro) <;> rfl)); (case rel => exact ⟨k + 1, qs ++ [.slice Bk m ck], r1A, r1n, r1c, by omega, by go_num, Lib.hid hG5, by (rw [HK2.out, HRR0.out]; exact Lib.hid ho5), HRQ, by (rw [HK1.out]; exact Lib.hid (qk_snoc HQS.out ⟨HIN.out, HSP.out⟩)), by (rw [HK1.out]; exact Lib.hid (row_snoc HQS.out.1 hown5)), hkb5⟩)))
      · have hd : decide ((m : Int) < q) = false := by simpa using hmq
        have HK1 : Hid (keptW D.nodes (D.wa.take (k + 1)) = keptW D.nodes (D.wa.take k)) := Lib.hid (by
          rw [HTK.out]; unfold keptW; rw [List.filter_append]
          simp [show ¬ (x.ak.length : Int) < qS D.nodes by unfold qS; rw [HM.out, HQ.out]; exact hmq])
        obtain ⟨_, _, e2, hr2, _⟩ := HRA.out.ints (by omega)
        injection e2 with e2a e2b e2c
        rw [← e2a, ← e2b] at hr2
        have HR2 := Lib.hid hr2
        obtain ⟨y, hy⟩ : ∃ y, memS rr x.di = y := ⟨_, rfl⟩
        have hI := inS_ltC rr x.di y hy
        have HKQ : Hid (keptR D.nodes D.re (D.wa.take (k + 1)) = if y then rr else rr ++ [x.di]) := Lib.hid (by
          rw [HTK.out, keptR_snoc, if_neg (by unfold qS; rw [HM.out, HQ.out]; exact hmq), HRR0.out, hy])
        have hrlen : rr.length ≤ 900000000 := by omega
        clear hr2 e2a e2b e2c hmq hy
        go_upto_region 5 with fail
        refine wp_region_held_drew (S := S) (by kernel_rfl) (hS _ (bel_drew (Below.refl _ _))) (fun hHeld => ?_)
        have hbd : Below wa.heap.size wa wa.drew := bel_drew (Below.refl _ _)
        have hZ := hHeld
        generalize wa.drew = Z at *
        (refine wpAnyH_tk 0 (some 23) (v := ?_) rfl rfl ?_ ?_; rotate_left; (focus (intro wq hSw; clear hSw; go_simp; all_goals (with_reducible rfl))); simp only [Act.put, List.setIfInBounds_toArray, List.set_cons_zero, List.set_cons_succ])
        (refine wpAnyH_tk 1 (some 24) (v := ?_) rfl rfl ?_ ?_; rotate_left; (focus (intro wq hSw; clear hSw; go_simp; all_goals (with_reducible rfl))); simp only [Act.put, List.setIfInBounds_toArray, List.set_cons_zero, List.set_cons_succ])
        (refine wpAnyH_tk 2 (some 25) (v := ?_) rfl rfl ?_ ?_; rotate_left; (focus (intro wq hSw; clear hSw; go_simp; all_goals (with_reducible rfl))); simp only [Act.put, List.setIfInBounds_toArray, List.set_cons_zero, List.set_cons_succ])
        (refine wpAnyH_tk 3 (some 26) (v := ?_) rfl rfl ?_ ?_; rotate_left; (focus (intro wq hSw; clear hSw; go_simp; all_goals (with_reducible rfl))); simp only [Act.put, List.setIfInBounds_toArray, List.set_cons_zero, List.set_cons_succ])
        (refine wpAnyH_tk 4 (some 27) (v := ?_) rfl rfl ?_ ?_; rotate_left; (focus (intro wq hSw; have q1 := hS1 wq hSw; clear hSw; go_simp; all_goals (with_reducible rfl))); simp only [Act.put, List.setIfInBounds_toArray, List.set_cons_zero, List.set_cons_succ])
        (refine wpAnyH_tk 5 (some 28) (v := ?_) rfl rfl ?_ ?_; rotate_left; (focus (intro wq hSw; clear hSw; go_simp; all_goals (with_reducible rfl))); simp only [Act.put, List.setIfInBounds_toArray, List.set_cons_zero, List.set_cons_succ])
        (refine wpAnyH_tk 6 (some 29) (v := ?_) rfl rfl ?_ ?_; rotate_left; (focus (intro wq hSw; have q1 := hSx1 wq hSw; clear hSw; go_simp; all_goals (with_reducible rfl))); simp only [Act.put, List.setIfInBounds_toArray, List.set_cons_zero, List.set_cons_succ])
        (refine wpAnyH_tk 8 (some 31) (v := ?_) rfl rfl ?_ ?_; rotate_left; (focus (intro wq hSw; clear hSw; go_simp; all_goals (with_reducible rfl))); simp only [Act.put, List.setIfInBounds_toArray, List.set_cons_zero, List.set_cons_succ])
        (refine wpAnyH_tk 9 (some 32) (v := ?_) rfl rfl ?_ ?_; rotate_left; (focus (intro wq hSw; clear hSw; go_simp; all_goals (with_reducible rfl))); simp only [Act.put, List.setIfInBounds_toArray, List.set_cons_zero, List.set_cons_succ])
        (refine wpAnyH_tk 10 (some 33) (v := ?_) rfl rfl ?_ ?_; rotate_left; (focus (intro wq hSw; clear hSw; go_simp; all_goals (with_reducible rfl))); simp only [Act.put, List.setIfInBounds_toArray, List.set_cons_zero, List.set_cons_succ])
        (refine wpAnyH_tk 11 (some 34) (v := ?_) rfl rfl ?_ ?_; rotate_left; (focus (intro wq hSw; clear hSw; go_simp; all_goals (with_reducible rfl))); simp only [Act.put, List.setIfInBounds_toArray, List.set_cons_zero, List.set_cons_succ])
        (refine wpAnyH_tk 12 (some 35) (v := ?_) rfl rfl ?_ ?_; rotate_left; (focus (intro wq hSw; have q1 := hS1 wq hSw; clear hSw; go_simp; all_goals (with_reducible rfl))); simp only [Act.put, List.setIfInBounds_toArray, List.set_cons_zero, List.set_cons_succ])
        refine wpAnyH_ready (rs := [7]) (by kernel_rfl) (by simp) ?_
        refine AllReadyH.cons (o := _) rfl (fun K hK => ?_) AllReadyH.nil
        go_simp
        (go_at_call 116; refine (ref2_Count Bk m ck x.ak D.nodes _ (HAK.out.up hbd) HXR.out (by omega) hn16).mono ?_; rintro e w' ⟨rfl, rfl⟩)
        refine hK.out _ _ (hZ) (fun hHeld => ?_)
        clear hK K
        (try simp only [Act.put, List.setIfInBounds_toArray, List.set_cons_zero, List.set_cons_succ])
        refine wpAnyH_ready (rs := [13]) (by kernel_rfl) (by simp) ?_
        refine AllReadyH.cons (o := _) rfl (fun K hK => ?_) AllReadyH.nil
        go_simp
        (go_at_call 117; refine (ref2_Quo3 D.nodes q _ HNS.out HQ.out).mono ?_; rintro e w' ⟨rfl, rfl⟩)
        refine hK.out _ _ (hZ) (fun hHeld => ?_)
        clear hK K
        (try simp only [Act.put, List.setIfInBounds_toArray, List.set_cons_zero, List.set_cons_succ])
        (refine wpAnyH_tk 14 (some 37) (v := ?_) rfl rfl ?_ ?_; rotate_left; (focus (intro wq hSw; clear hSw; go_simp; all_goals (with_reducible rfl))); simp only [Act.put, List.setIfInBounds_toArray, List.set_cons_zero, List.set_cons_succ])
        refine wpAnyH_done (by kernel_rfl) ?_ _
        cases y
        · have HK2 : Hid (keptR D.nodes D.re (D.wa.take (k + 1)) = rr ++ [x.di]) := Lib.hid (by rw [HKQ.out]; rfl)
          clear hHeld
          go_upto_region 7 with fail
          refine wp_region_held_drew (S := S) (by kernel_rfl) (hS _ (bel_trans hbd (bel_drew (Below.refl _ _)))) (fun hHeld => ?_)
          have hbd7 : Below wa.heap.size wa Z.drew := bel_trans hbd (bel_drew (Below.refl _ _))
          have hZ7 := hHeld
          clear hZ
          generalize Z.drew = Z7 at *
          (refine wpAnyH_tk 0 (some 42) (v := ?_) rfl rfl ?_ ?_; rotate_left; (focus (intro wq hSw; clear hSw; go_simp; all_goals (with_reducible rfl))); simp only [Act.put, List.setIfInBounds_toArray, List.set_cons_zero, List.set_cons_succ])
          (refine wpAnyH_tk 1 (some 43) (v := ?_) rfl rfl ?_ ?_; rotate_left; (focus (intro wq hSw; clear hSw; go_simp; all_goals (with_reducible rfl))); simp only [Act.put, List.setIfInBounds_toArray, List.set_cons_zero, List.set_cons_succ])
          (refine wpAnyH_tk 2 (some 44) (v := ?_) rfl rfl ?_ ?_; rotate_left; (focus (intro wq hSw; clear hSw; go_simp; all_goals (with_reducible rfl))); simp only [Act.put, List.setIfInBounds_toArray, List.set_cons_zero, List.set_cons_succ])
          (refine wpAnyH_tk 3 (some 45) (v := ?_) rfl rfl ?_ ?_; rotate_left; (focus (intro wq hSw; clear hSw; go_simp; all_goals (with_reducible rfl))); simp only [Act.put, List.setIfInBounds_toArray, List.set_cons_zero, List.set_cons_succ])
          (refine wpAnyH_tk 4 (some 46) (v := ?_) rfl rfl ?_ ?_; rotate_left; (focus (intro wq hSw; have q1 := hS8 wq hSw; clear hSw; go_simp; all_goals (with_reducible rfl))); simp only [Act.put, List.setIfInBounds_toArray, List.set_cons_zero, List.set_cons_succ])
          (refine wpAnyH_tk 5 (some 47) (v := ?_) rfl rfl ?_ ?_; rotate_left; (focus (intro wq hSw; clear hSw; go_simp; all_goals (with_reducible rfl))); simp only [Act.put, List.setIfInBounds_toArray, List.set_cons_zero, List.set_cons_succ])
          (refine wpAnyH_tk 6 (some 48) (v := ?_) rfl rfl ?_ ?_; rotate_left; (focus (intro wq hSw; have q1 := hSx0 wq hSw; clear hSw; go_simp; all_goals (with_reducible rfl))); simp only [Act.put, List.setIfInBounds_toArray, List.set_cons_zero, List.set_cons_succ])
          refine wpAnyH_ready (rs := [7]) (by kernel_rfl) (by simp) ?_
          refine AllReadyH.cons (o := _) rfl (fun K hK => ?_) AllReadyH.nil
          go_simp
          (go_at_call 70; refine (ref0_In r1A r1n r1c rr x.di _ (HR2.out.up hbd7)).mono ?_; rintro e w' ⟨rfl, rfl⟩)
          refine hK.out _ _ (hZ7) (fun hHeld => ?_)
          clear hK K
          (try simp only [Act.put, List.setIfInBounds_toArray, List.set_cons_zero, List.set_cons_succ])
          (refine wpAnyH_tk 8 (some 50) (v := ?_) rfl rfl ?_ ?_; rotate_left; (focus (intro wq hSw; clear hSw; go_simp; all_goals (with_reducible rfl))); simp only [Act.put, List.setIfInBounds_toArray, List.set_cons_zero, List.set_cons_succ])
          refine wpAnyH_done (by kernel_rfl) ?_ _
          clear hHeld hZ7
          go_upto_region 8 with fail
          refine wp_region_held_drew (S := fun Q => S0 Q) (by kernel_rfl) (hS2 _ (hS _ (bel_trans hbd7 (bel_drew (Below.refl _ _))))) (fun hHeld => ?_)
          have hbd8 : Below wa.heap.size wa Z7.drew := bel_trans hbd7 (bel_drew (Below.refl _ _))
          generalize Z7.drew = Z8 at *
          (refine wpAnyH_tk 0 (some 51) (v := ?_) rfl rfl ?_ ?_; rotate_left; (focus (intro wq hSw; clear hSw; go_simp; all_goals (with_reducible rfl))); simp only [Act.put, List.setIfInBounds_toArray, List.set_cons_zero, List.set_cons_succ])
          (refine wpAnyH_tk 1 (some 52) (v := ?_) rfl rfl ?_ ?_; rotate_left; (focus (intro wq hSw; clear hSw; go_simp; all_goals (with_reducible rfl))); simp only [Act.put, List.setIfInBounds_toArray, List.set_cons_zero, List.set_cons_succ])
          (refine wpAnyH_tk 2 (some 53) (v := ?_) rfl rfl ?_ ?_; rotate_left; (focus (intro wq hSw; clear hSw; go_simp; all_goals (with_reducible rfl))); simp only [Act.put, List.setIfInBounds_toArray, List.set_cons_zero, List.set_cons_succ])
          (refine wpAnyH_tk 3 (some 54) (v := ?_) rfl rfl ?_ ?_; rotate_left; (focus (intro wq hSw; clear hSw; go_simp; all_goals (with_reducible rfl))); simp only [Act.put, List.setIfInBounds_toArray, List.set_cons_zero, List.set_cons_succ])
          (refine wpAnyH_tk 4 (some 55) (v := ?_) rfl rfl ?_ ?_; rotate_left; (focus (intro wq hSw; clear hSw; go_simp; all_goals (with_reducible rfl))); simp only [Act.put, List.setIfInBounds_toArray, List.set_cons_zero, List.set_cons_succ])
          (refine wpAnyH_tk 6 (some 57) (v := ?_) rfl rfl ?_ ?_; rotate_left; (focus (intro wq hSw; clear hSw; go_simp; all_goals (with_reducible rfl))); simp only [Act.put, List.setIfInBounds_toArray, List.set_cons_zero, List.set_cons_succ])
          (refine wpAnyH_tk 7 (some 58) (v := ?_) rfl rfl ?_ ?_; rotate_left; (focus (intro wq hSw; have q1 := hSy0 wq hSw; clear hSw; go_simp; all_goals (with_reducible rfl))); simp only [Act.put, List.setIfInBounds_toArray, List.set_cons_zero, List.set_cons_succ])
          refine wpAnyH_ready (rs := [5, 8]) (by kernel_rfl) (by simp) ?_
          refine AllReadyH.cons (o := _) rfl (fun K hK => ?_) (AllReadyH.cons (o := _) rfl (fun K hK => ?_) AllReadyH.nil)
          · skip
            have q9 := (HGA.out.up (hbd8)).box.2 8 _ rfl
            have q8 := (HGA.out.up (hbd8)).lt
            go_simp
            clear q9 q8
            refine hK.out _ _ (hS2 _ (hS _ (hbd8))) (fun hHeld => ?_)
            clear hK K
            (try simp only [Act.put, List.setIfInBounds_toArray, List.set_cons_zero, List.set_cons_succ])
            refine wpAnyH_ready (rs := [8]) (by kernel_rfl) (by simp) ?_
            refine AllReadyH.cons (o := _) rfl (fun K hK => ?_) AllReadyH.nil
            go_simp
            obtain ⟨NB, hNB⟩ : ∃ N, N = Z8.heap.size := ⟨_, rfl⟩
            obtain ⟨ZB, hZB⟩ : ∃ Zq : World, Zq = Z8.alloc (.cells #[.int .i64 x.di] 3) := ⟨_, rfl⟩
            rw [← hNB, ← hZB]
            have hkB : BoxR ZB NB [.int .i64 x.di] := by rw [hZB, hNB]; exact BoxR.new _ [.int .i64 x.di] 3
            have hbB : Below Z8.heap.size Z8 ZB := by rw [hZB]; exact bel_alloc (Below.refl _ _)
            have hbB2 := bel_trans (hbd8) hbB
            clear hNB hZB
            refine hK.out _ _ (hS2 _ (hS _ hbB2)) (fun hHeld => ?_)
            clear hK K
            (try simp only [Act.put, List.setIfInBounds_toArray, List.set_cons_zero, List.set_cons_succ])
            refine wpAnyH_ready (rs := [9]) (by kernel_rfl) (by simp) ?_
            refine AllReadyH.cons (o := _) rfl (fun K hK => ?_) AllReadyH.nil
            refine step_app1 rfl (.tmp 56) (.tmp 59) rfl rfl B (.slice r1A r1n r1c) rr (by simp [Act.eval, Act.put]) (HRA.out.up hbB2) NB x.di (by simp [Act.eval, Act.put]) (hkB.2 0 _ rfl) hrlen (Nat.le_trans hBwa hbB2.size) ?_
            intro v7 w7 hown7 hg7 hb7 hat7
            obtain ⟨A7, c7, e7, _⟩ := hown7.ints (by simp; omega)
            obtain ⟨n7, hn7⟩ : ∃ q, (rr ++ [x.di]).length = q := ⟨_, rfl⟩
            rw [hn7] at e7
            subst e7
            have hG7 : Blk w7 g 70 [.int .i64 D.id, .int .i64 D.nodes, .int .i64 D.next, .slice oA on oc, .int .i64 D.age, .int .i64 D.clock, .slice (some ⟨gw, 0, none⟩) tn tc, .slice eA en ec, .slice r1A r1n r1c, .slice uA un uc] := blk_grownI (HGA.out.up hbB2) (show World.ownsRow _ B 3 1 (.slice r1A r1n r1c) _ _ from HRA.out.up hbB2) (by decide) hg7
            have hA7 : Blk w7 g4 56 [.int .i64 x.di, .slice Bk m ck] := blk_grownI (HAA.out.up hbB2) (show World.ownsRow _ B 3 1 (.slice r1A r1n r1c) _ _ from HRA.out.up hbB2) (by decide) hg7
            have hkb7 := (HKA.out.below hbB2 hswa).grown hg7 (by rcases HRQ.out with h | ⟨q, h1, h2⟩; exact .inl h; exact .inr ⟨q, h1, h2⟩)
            refine hK.out _ _ (hSG _ _ () () hG7 hA7) (fun hHeld => ?_)
            clear hK K
            (try simp only [Act.put, List.setIfInBounds_toArray, List.set_cons_zero, List.set_cons_succ])
            (refine wpAnyH_tk 10 (some 61) (v := ?_) rfl rfl ?_ ?_; rotate_left; (focus (intro wq hSw; clear hSw; go_simp; all_goals (with_reducible rfl))); simp only [Act.put, List.setIfInBounds_toArray, List.set_cons_zero, List.set_cons_succ])
            (refine wpAnyH_tk 11 (some 62) (v := ?_) rfl rfl ?_ ?_; rotate_left; (focus (intro wq hSw; clear hSw; go_simp; all_goals (with_reducible rfl))); simp only [Act.put, List.setIfInBounds_toArray, List.set_cons_zero, List.set_cons_succ])
            (refine wpAnyH_tk 12 (some 63) (v := ?_) rfl rfl ?_ ?_; rotate_left; (focus (intro wq hSw; clear hSw; go_simp; all_goals (with_reducible rfl))); simp only [Act.put, List.setIfInBounds_toArray, List.set_cons_zero, List.set_cons_succ])
            refine wpAnyH_ready (rs := [13]) (by kernel_rfl) (by simp) ?_
            refine AllReadyH.cons (o := _) rfl (fun K hK => ?_) AllReadyH.nil
            have qf := hG7.frozen
            have ql := hG7.lt
            have q9 := hG7.box.2 8 _ rfl
            go_simp
            clear qf ql q9
            have hG8 := hG7.set_ 8 (.slice A7 n7 c7)
            have hA8 := hA7.far (p := ⟨g, 8, none⟩) (by show g4 ≠ g; omega) (.slice A7 n7 c7)
            have htg := TKeep.setg (o := 8) (u := .slice A7 n7 c7) hG7
            refine hK.out _ _ (hSG _ _ () () hG8 hA8) (fun hHeld => ?_)
            clear hK K
            (try simp only [Act.put, List.setIfInBounds_toArray, List.set_cons_zero, List.set_cons_succ])
            refine wpAnyH_done (by kernel_rfl) ?_ _
            have hrow8 := own_tk (own_farT (own_up HROWA.out hbB2) (show World.ownsRow _ B 3 1 (.slice r1A r1n r1c) _ _ from HRA.out.up hbB2) (by decide) hg7) htg (by decide)
            have ho8 : OwnI _ B _ _ := own_tk (show World.ownsRow _ B 3 1 _ _ _ from hown7) htg (by decide)
            have hkb8 := hkb7.setg (o := 8) (u := .slice A7 n7 c7)
            have hrq8 : Value.ownBlock (.slice A7 n7 c7) = rq ∨ ∃ q, Value.ownBlock (.slice A7 n7 c7) = some q ∧ w.heap.size ≤ q := by (rcases hat7 with h | h; (rw [h]; exact HRQ.out); exact .inr ⟨_, h, Nat.le_trans hswa hbB2.size⟩)
            have HG8 := Lib.hid hG8
            have HROW8 := Lib.hid hrow8
            have HO8 := Lib.hid ho8
            have HKB8 := Lib.hid hkb8
            have HRQ8 := Lib.hid hrq8
            clear hG7 hA7 hG8 hA8 htg hown7 hg7 hb7 hat7 hbB hbB2 hkB hHeld hrow8 ho8 hkb7 hkb8 hrq8 hS hS1 hS2 hS8 hSx0 hSx1 hSG
            go_wp2_with fail
            (first | (go_round; (case rel => exact ⟨k + 1, qs, A7, n7, c7, by omega, by go_num, HG8, by (rw [HK2.out]; exact HO8), HRQ8, by (rw [HK1.out]; exact HQS), by (rw [HK1.out]; exact HROW8), HKB8.out⟩); (case measure => (simp [intOf] <;> omega))) | (go_roundw; (case rel => exact ⟨k + 1, qs, A7, n7, c7, by omega, by go_num, HG8, by (rw [HK2.out]; exact HO8), HRQ8, by (rw [HK1.out]; exact HQS), by (rw [HK1.out]; exact HROW8), HKB8.out⟩); (case measure => (simp [intOf] <;> omega))) | (refine ⟨?_, by simp [intOf] <;> omega⟩; (repeat apply Exists.intro); refine ⟨?rel, ?fr⟩; (case fr => ((repeat' apply And.intro) <;> rfl)); (case rel => exact ⟨k + 1, qs, A7, n7, c7, by omega, by go_num, HG8, by (rw [HK2.out]; exact HO8), HRQ8, by (rw [HK1.out]; exact HQS), by (rw [HK1.out]; exact HROW8), HKB8.out⟩)))
          · skip
            go_simp
            obtain ⟨NB, hNB⟩ : ∃ N, N = Z8.heap.size := ⟨_, rfl⟩
            obtain ⟨ZB, hZB⟩ : ∃ Zq : World, Zq = Z8.alloc (.cells #[.int .i64 x.di] 3) := ⟨_, rfl⟩
            rw [← hNB, ← hZB]
            have hkB : BoxR ZB NB [.int .i64 x.di] := by rw [hZB, hNB]; exact BoxR.new _ [.int .i64 x.di] 3
            have hbB : Below Z8.heap.size Z8 ZB := by rw [hZB]; exact bel_alloc (Below.refl _ _)
            have hbB2 := bel_trans (hbd8) hbB
            clear hNB hZB
            refine hK.out _ _ (hS2 _ (hS _ hbB2)) (fun hHeld => ?_)
            clear hK K
            (try simp only [Act.put, List.setIfInBounds_toArray, List.set_cons_zero, List.set_cons_succ])
            refine wpAnyH_ready (rs := [5]) (by kernel_rfl) (by simp) ?_
            refine AllReadyH.cons (o := _) rfl (fun K hK => ?_) AllReadyH.nil
            have q9 := (HGA.out.up (hbB2)).box.2 8 _ rfl
            have q8 := (HGA.out.up (hbB2)).lt
            go_simp
            clear q9 q8
            refine hK.out _ _ (hS2 _ (hS _ (hbB2))) (fun hHeld => ?_)
            clear hK K
            (try simp only [Act.put, List.setIfInBounds_toArray, List.set_cons_zero, List.set_cons_succ])
            refine wpAnyH_ready (rs := [9]) (by kernel_rfl) (by simp) ?_
            refine AllReadyH.cons (o := _) rfl (fun K hK => ?_) AllReadyH.nil
            refine step_app1 rfl (.tmp 56) (.tmp 59) rfl rfl B (.slice r1A r1n r1c) rr (by simp [Act.eval, Act.put]) (HRA.out.up hbB2) NB x.di (by simp [Act.eval, Act.put]) (hkB.2 0 _ rfl) hrlen (Nat.le_trans hBwa hbB2.size) ?_
            intro v7 w7 hown7 hg7 hb7 hat7
            obtain ⟨A7, c7, e7, _⟩ := hown7.ints (by simp; omega)
            obtain ⟨n7, hn7⟩ : ∃ q, (rr ++ [x.di]).length = q := ⟨_, rfl⟩
            rw [hn7] at e7
            subst e7
            have hG7 : Blk w7 g 70 [.int .i64 D.id, .int .i64 D.nodes, .int .i64 D.next, .slice oA on oc, .int .i64 D.age, .int .i64 D.clock, .slice (some ⟨gw, 0, none⟩) tn tc, .slice eA en ec, .slice r1A r1n r1c, .slice uA un uc] := blk_grownI (HGA.out.up hbB2) (show World.ownsRow _ B 3 1 (.slice r1A r1n r1c) _ _ from HRA.out.up hbB2) (by decide) hg7
            have hA7 : Blk w7 g4 56 [.int .i64 x.di, .slice Bk m ck] := blk_grownI (HAA.out.up hbB2) (show World.ownsRow _ B 3 1 (.slice r1A r1n r1c) _ _ from HRA.out.up hbB2) (by decide) hg7
            have hkb7 := (HKA.out.below hbB2 hswa).grown hg7 (by rcases HRQ.out with h | ⟨q, h1, h2⟩; exact .inl h; exact .inr ⟨q, h1, h2⟩)
            refine hK.out _ _ (hSG _ _ () () hG7 hA7) (fun hHeld => ?_)
            clear hK K
            (try simp only [Act.put, List.setIfInBounds_toArray, List.set_cons_zero, List.set_cons_succ])
            (refine wpAnyH_tk 10 (some 61) (v := ?_) rfl rfl ?_ ?_; rotate_left; (focus (intro wq hSw; clear hSw; go_simp; all_goals (with_reducible rfl))); simp only [Act.put, List.setIfInBounds_toArray, List.set_cons_zero, List.set_cons_succ])
            (refine wpAnyH_tk 11 (some 62) (v := ?_) rfl rfl ?_ ?_; rotate_left; (focus (intro wq hSw; clear hSw; go_simp; all_goals (with_reducible rfl))); simp only [Act.put, List.setIfInBounds_toArray, List.set_cons_zero, List.set_cons_succ])
            (refine wpAnyH_tk 12 (some 63) (v := ?_) rfl rfl ?_ ?_; rotate_left; (focus (intro wq hSw; clear hSw; go_simp; all_goals (with_reducible rfl))); simp only [Act.put, List.setIfInBounds_toArray, List.set_cons_zero, List.set_cons_succ])
            refine wpAnyH_ready (rs := [13]) (by kernel_rfl) (by simp) ?_
            refine AllReadyH.cons (o := _) rfl (fun K hK => ?_) AllReadyH.nil
            have qf := hG7.frozen
            have ql := hG7.lt
            have q9 := hG7.box.2 8 _ rfl
            go_simp
            clear qf ql q9
            have hG8 := hG7.set_ 8 (.slice A7 n7 c7)
            have hA8 := hA7.far (p := ⟨g, 8, none⟩) (by show g4 ≠ g; omega) (.slice A7 n7 c7)
            have htg := TKeep.setg (o := 8) (u := .slice A7 n7 c7) hG7
            refine hK.out _ _ (hSG _ _ () () hG8 hA8) (fun hHeld => ?_)
            clear hK K
            (try simp only [Act.put, List.setIfInBounds_toArray, List.set_cons_zero, List.set_cons_succ])
            refine wpAnyH_done (by kernel_rfl) ?_ _
            have hrow8 := own_tk (own_farT (own_up HROWA.out hbB2) (show World.ownsRow _ B 3 1 (.slice r1A r1n r1c) _ _ from HRA.out.up hbB2) (by decide) hg7) htg (by decide)
            have ho8 : OwnI _ B _ _ := own_tk (show World.ownsRow _ B 3 1 _ _ _ from hown7) htg (by decide)
            have hkb8 := hkb7.setg (o := 8) (u := .slice A7 n7 c7)
            have hrq8 : Value.ownBlock (.slice A7 n7 c7) = rq ∨ ∃ q, Value.ownBlock (.slice A7 n7 c7) = some q ∧ w.heap.size ≤ q := by (rcases hat7 with h | h; (rw [h]; exact HRQ.out); exact .inr ⟨_, h, Nat.le_trans hswa hbB2.size⟩)
            have HG8 := Lib.hid hG8
            have HROW8 := Lib.hid hrow8
            have HO8 := Lib.hid ho8
            have HKB8 := Lib.hid hkb8
            have HRQ8 := Lib.hid hrq8
            clear hG7 hA7 hG8 hA8 htg hown7 hg7 hb7 hat7 hbB hbB2 hkB hHeld hrow8 ho8 hkb7 hkb8 hrq8 hS hS1 hS2 hS8 hSx0 hSx1 hSG
            go_wp2_with fail
            (first | (go_round; (case rel => exact ⟨k + 1, qs, A7, n7, c7, by omega, by go_num, HG8, by (rw [HK2.out]; exact HO8), HRQ8, by (rw [HK1.out]; exact HQS), by (rw [HK1.out]; exact HROW8), HKB8.out⟩); (case measure => (simp [intOf] <;> omega))) | (go_roundw; (case rel => exact ⟨k + 1, qs, A7, n7, c7, by omega, by go_num, HG8, by (rw [HK2.out]; exact HO8), HRQ8, by (rw [HK1.out]; exact HQS), by (rw [HK1.out]; exact HROW8), HKB8.out⟩); (case measure => (simp [intOf] <;> omega))) | (refine ⟨?_, by simp [intOf] <;> omega⟩; (repeat apply Exists.intro); refine ⟨?rel, ?fr⟩; (case fr => ((repeat' apply And.intro) <;> rfl)); (case rel => exact ⟨k + 1, qs, A7, n7, c7, by omega, by go_num, HG8, by (rw [HK2.out]; exact HO8), HRQ8, by (rw [HK1.out]; exact HQS), by (rw [HK1.out]; exact HROW8), HKB8.out⟩)))
        · have HK2 : Hid (keptR D.nodes D.re (D.wa.take (k + 1)) = keptR D.nodes D.re (D.wa.take k)) := Lib.hid (by rw [HKQ.out, HRR0.out]; rfl)
          clear hHeld
          go_upto_region 7 with fail
          refine wp_region_held_drew (S := S) (by kernel_rfl) (hS _ (bel_trans hbd (bel_drew (Below.refl _ _)))) (fun hHeld => ?_)
          have hbd7 : Below wa.heap.size wa Z.drew := bel_trans hbd (bel_drew (Below.refl _ _))
          have hZ7 := hHeld
          clear hZ
          generalize Z.drew = Z7 at *
          (refine wpAnyH_tk 0 (some 42) (v := ?_) rfl rfl ?_ ?_; rotate_left; (focus (intro wq hSw; clear hSw; go_simp; all_goals (with_reducible rfl))); simp only [Act.put, List.setIfInBounds_toArray, List.set_cons_zero, List.set_cons_succ])
          (refine wpAnyH_tk 1 (some 43) (v := ?_) rfl rfl ?_ ?_; rotate_left; (focus (intro wq hSw; clear hSw; go_simp; all_goals (with_reducible rfl))); simp only [Act.put, List.setIfInBounds_toArray, List.set_cons_zero, List.set_cons_succ])
          (refine wpAnyH_tk 2 (some 44) (v := ?_) rfl rfl ?_ ?_; rotate_left; (focus (intro wq hSw; clear hSw; go_simp; all_goals (with_reducible rfl))); simp only [Act.put, List.setIfInBounds_toArray, List.set_cons_zero, List.set_cons_succ])
          (refine wpAnyH_tk 3 (some 45) (v := ?_) rfl rfl ?_ ?_; rotate_left; (focus (intro wq hSw; clear hSw; go_simp; all_goals (with_reducible rfl))); simp only [Act.put, List.setIfInBounds_toArray, List.set_cons_zero, List.set_cons_succ])
          (refine wpAnyH_tk 4 (some 46) (v := ?_) rfl rfl ?_ ?_; rotate_left; (focus (intro wq hSw; have q1 := hS8 wq hSw; clear hSw; go_simp; all_goals (with_reducible rfl))); simp only [Act.put, List.setIfInBounds_toArray, List.set_cons_zero, List.set_cons_succ])
          (refine wpAnyH_tk 5 (some 47) (v := ?_) rfl rfl ?_ ?_; rotate_left; (focus (intro wq hSw; clear hSw; go_simp; all_goals (with_reducible rfl))); simp only [Act.put, List.setIfInBounds_toArray, List.set_cons_zero, List.set_cons_succ])
          (refine wpAnyH_tk 6 (some 48) (v := ?_) rfl rfl ?_ ?_; rotate_left; (focus (intro wq hSw; have q1 := hSx0 wq hSw; clear hSw; go_simp; all_goals (with_reducible rfl))); simp only [Act.put, List.setIfInBounds_toArray, List.set_cons_zero, List.set_cons_succ])
          refine wpAnyH_ready (rs := [7]) (by kernel_rfl) (by simp) ?_
          refine AllReadyH.cons (o := _) rfl (fun K hK => ?_) AllReadyH.nil
          go_simp
          (go_at_call 70; refine (ref0_In r1A r1n r1c rr x.di _ (HR2.out.up hbd7)).mono ?_; rintro e w' ⟨rfl, rfl⟩)
          refine hK.out _ _ (hZ7) (fun hHeld => ?_)
          clear hK K
          (try simp only [Act.put, List.setIfInBounds_toArray, List.set_cons_zero, List.set_cons_succ])
          (refine wpAnyH_tk 8 (some 50) (v := ?_) rfl rfl ?_ ?_; rotate_left; (focus (intro wq hSw; clear hSw; go_simp; all_goals (with_reducible rfl))); simp only [Act.put, List.setIfInBounds_toArray, List.set_cons_zero, List.set_cons_succ])
          refine wpAnyH_done (by kernel_rfl) ?_ _
          have HZB := Lib.hid hbd7
          clear hS hS1 hS2 hS8 hSx0 hSx1 hSG hHeld hZ7
          go_wp2_with fail
          (first | (go_round; (case rel => exact ⟨k + 1, qs, r1A, r1n, r1c, by omega, by go_num, Lib.hid (HGA.out.up HZB.out), by (rw [HK2.out, HRR0.out]; exact Lib.hid (HRA.out.up HZB.out)), HRQ, by (rw [HK1.out]; exact HQS), by (rw [HK1.out]; exact Lib.hid (own_up HROWA.out HZB.out)), HKA.out.below HZB.out hswa⟩); (case measure => (simp [intOf] <;> omega))) | (go_roundw; (case rel => exact ⟨k + 1, qs, r1A, r1n, r1c, by omega, by go_num, Lib.hid (HGA.out.up HZB.out), by (rw [HK2.out, HRR0.out]; exact Lib.hid (HRA.out.up HZB.out)), HRQ, by (rw [HK1.out]; exact HQS), by (rw [HK1.out]; exact Lib.hid (own_up HROWA.out HZB.out)), HKA.out.below HZB.out hswa⟩); (case measure => (simp [intOf] <;> omega))) | (refine ⟨?_, by simp [intOf] <;> omega⟩; (repeat apply Exists.intro); refine ⟨?rel, ?fr⟩; (case fr => ((repeat' apply And.intro) <;> rfl)); (case rel => exact ⟨k + 1, qs, r1A, r1n, r1c, by omega, by go_num, Lib.hid (HGA.out.up HZB.out), by (rw [HK2.out, HRR0.out]; exact Lib.hid (HRA.out.up HZB.out)), HRQ, by (rw [HK1.out]; exact HQS), by (rw [HK1.out]; exact Lib.hid (own_up HROWA.out HZB.out)), HKA.out.below HZB.out hswa⟩)))
    · obtain rfl : k = tn := by omega
      have hd1 : decide ((k : Int) < (k : Int)) = false := by simp
      have htake : D.wa.take k = D.wa := by rw [← HTN.out, List.take_length]
      rw [htake] at HQS HROW HRR0
      have hfk := HGK.out.frozen
      have HN1 := Lib.hid HQS.out.1
      obtain ⟨A1, n1, c1, e1⟩ : ∃ A n c, vl = .slice A n c := by
        rcases own_shape HROW.out with ⟨e, _⟩ | ⟨q1, c1, e, _⟩
        · exact ⟨_, _, _, e⟩
        · exact ⟨_, _, _, e⟩
      subst e1
      have hG6 := HGK.out.set_ 6 (.slice A1 n1 c1)
      have htg := TKeep.setg (o := 6) (u := .slice A1 n1 c1) HGK.out
      have hW6 : OwnWs (wk.setCell ⟨g, 6, none⟩ (.slice A1 n1 c1)) B (.slice A1 n1 c1) (keptW D.nodes D.wa) := ⟨qs, own_mono (own_tk HROW.out htg (by decide)) hB, HQS.out.1, fun j hj => own_tk (HKB.out.own (show World.ownsRow _ B 3 1 _ _ _ from (HQS.out.2 j hj).1) (own_neT (show World.ownsRow _ B 3 1 _ _ _ from (HQS.out.2 j hj).1) HG.out (by decide)) (HQS.out.2 j hj).2) htg (by decide)⟩
      have hR6 : OwnI (wk.setCell ⟨g, 6, none⟩ (.slice A1 n1 c1)) B (.slice r1A r1n r1c) (keptR D.nodes D.re D.wa) := by rw [HRR0.out]; exact own_tk (show World.ownsRow _ B 3 1 _ _ _ from HRR.out) htg (by decide)
      have HG6 := Lib.hid hG6
      have HW6 := Lib.hid hW6
      have HR6 := Lib.hid hR6
      have hkb6 := HKB.out.setg (o := 6) (u := .slice A1 n1 c1)
      clear hG6 htg hW6 hR6 htake
      go_wp2_with fail
      go_end0
      exact ⟨A1, n1, c1, r1A, r1n, r1c, rfl, HG6.out, hkb6, HW6.out, HR6.out⟩
end Go.Proofs.YtgfakefcmbpboaaGreat
