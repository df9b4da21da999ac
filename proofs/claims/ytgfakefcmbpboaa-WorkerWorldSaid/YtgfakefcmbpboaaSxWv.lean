/- What is kept by enough becomes ready, at the program: step.kept. -/
import Derived.Test.YtgfakefcmbpboaaSxWr
import Derived.Test.YtgfakefcmbpboaaSxWt
import Derived.Test.YtgfakefcmbpboaaSxWj
namespace Go.Proofs.Ytgfakefcmbpboaa
open Go.RowKit
set_option linter.unusedSimpArgs false
set_option linter.unusedVariables false

theorem comm_Q (n q : Int) (w : World) (h0 : 1 ≤ n) (h1 : n ≤ 1000) (hq : 2 * ((n - 1) / 3) + 1 = q) : Calls Try.prog 77 #[.int .i64 n] w fun e w' => e = .returned (.int .i64 q) ∧ w = w' := by
  subst hq; exact committee_Q n w h0 h1
theorem wpList_appWt {w : World} {ops : Array Oper} {rest : List Oper} {o : Oper} {a : Act} {Q : Exit → Act → World → Prop} (hgd : o.guard = none) (s x : Operand)
    (ho : o.op = .call { callee := .builtin .append, args := #[s, x], argTypes := #[23, 23] }) (hty : o.type = 23) (B : Nat) (v : Value) (n : Nat) (xs : List Value) (hs : a.eval s = v) (hown : w.ownsRow B 84 2 v n xs) (vb : Nat) (e : List Value) (hx : a.eval x = .slice (some ⟨vb, 0, none⟩) 1 1)
    (he : e.length = 2) (hc : ∀ j u, e[j]? = some u → w.cell? ⟨vb, j, none⟩ = some u) (h1e : ∀ u ∈ e, u.oneCell' = true) (hn : n ≤ 900000000) (hB : B ≤ w.heap.size)
    (h : ∀ v' w', w'.ownsRow B 84 2 v' (n + 1) (xs ++ e) → w.grownBy w' v.ownBlock → Below B w w' → wpList Try.prog ops Q rest (a.put o.dst v') w') : wpList Try.prog ops Q (o :: rest) a w := by
  obtain ⟨v', w', hrun, h2, h3, h4, h5⟩ := run_app_Wait w B v n xs hown vb 0 1 1 e (by omega) (fun j u hj => by rw [Nat.zero_add]; exact hc j u hj) h1e (by omega) hB
  exact Lib.wpList_append_run w hgd s x _ _ ho _ _ hs hx _ _ (by rw [hty]; exact hrun) (h v' w' h2 h3 h4)
noncomputable def qS (n : Int) : Int := 2 * ((n - 1) / 3) + 1
noncomputable def keptW (n : Int) (l : List WaitD) : List WaitD := l.filter fun x => decide ((x.ak.length : Int) < qS n)
noncomputable def keptR (n : Int) : List Int → List WaitD → List Int
  | r, [] => r
  | r, x :: l => keptR n (if (x.ak.length : Int) < qS n then r else if memS r x.di then r else r ++ [x.di]) l
theorem keptR_snoc (n : Int) (x : WaitD) : ∀ (l : List WaitD) (r : List Int), keptR n r (l ++ [x]) = if (x.ak.length : Int) < qS n then keptR n r l else if memS (keptR n r l) x.di then keptR n r l else keptR n r l ++ [x.di]
  | [], r => rfl
  | y :: l, r => by simp only [List.cons_append, keptR]; exact keptR_snoc n x l _
theorem keptR_len (n : Int) : ∀ (l : List WaitD) (r : List Int), (keptR n r l).length ≤ r.length + l.length
  | [], r => by simp [keptR]
  | y :: l, r => by
    simp only [keptR]
    refine Nat.le_trans (keptR_len n l _) ?_
    (repeat' split) <;> simp <;> omega
theorem take_wth (l : List WaitD) (k : Nat) (h : k < l.length) : l.take (k + 1) = l.take k ++ [l.getD k default] := by
  rw [List.take_add_one]; simp [h]
theorem qs_snoc {w : World} {B : Nat} {qs : List Value} {l : List WaitD} {p : Value} {x : WaitD} (h : qs.length = l.length ∧ ∀ j, j < l.length → OwnI w B (qs.getD j default) (l.getD j default).ak) (hx : OwnI w B p x.ak) : (qs ++ [p]).length = (l ++ [x]).length ∧ ∀ j, j < (l ++ [x]).length → OwnI w B ((qs ++ [p]).getD j default) ((l ++ [x]).getD j default).ak := by
  obtain ⟨h1, h2⟩ := h
  refine ⟨by simp [h1], fun j hj => ?_⟩
  rw [List.length_append, List.length_singleton] at hj
  rcases Nat.lt_or_ge j l.length with hlt | hge
  · have e1 : (qs ++ [p]).getD j default = qs.getD j default := by simp [List.getElem?_append, h1, hlt]
    have e2 : (l ++ [x]).getD j default = l.getD j default := by simp [List.getElem?_append, hlt]
    rw [e1, e2]; exact h2 j hlt
  · obtain rfl : j = l.length := by omega
    have e1 : (qs ++ [p]).getD l.length default = p := by rw [← h1]; simp
    have e2 : (l ++ [x]).getD l.length default = x := by simp
    rw [e1, e2]; exact hx
theorem row_snoc {w : World} {B : Nat} {v p : Value} {qs : List Value} {l : List WaitD} {x : WaitD} (h1 : qs.length = l.length) (h : w.ownsRow B 84 2 v (l.length + 1) (dcells dWait l qs ++ [.int .i64 x.di, p])) : w.ownsRow B 84 2 v (l ++ [x]).length (dcells dWait (l ++ [x]) (qs ++ [p])) := by
  rw [dcells_app dWait h1, List.length_append]; exact h
set_option maxRecDepth 100000 in
set_option maxHeartbeats 8000000 in
theorem step_kept (g B : Nat) (oA tA eA rA uA : Option Addr) (on oc tn tc en ec rn rc un uc : Nat) (D : WorkD) (w : World) (hg : Blk w g 97 [.int .i64 D.id, .int .i64 D.nodes, .int .i64 D.next, .slice oA on oc, .int .i64 D.age, .int .i64 D.clock, .slice tA tn tc, .slice eA en ec, .slice rA rn rc, .slice uA un uc]) (hB : B ≤ w.heap.size) (hW : OwnWs w B (.slice tA tn tc) D.wa) (hR : OwnI w B (.slice rA rn rc) D.re) (hbw : BigW D.wa) (hre : D.re.length + D.wa.length ≤ 800000000) (hris : ∀ x ∈ D.wa, RisesIn x.ak D.nodes) (hn1 : 1 ≤ D.nodes) (hn16 : D.nodes ≤ 16) :
    Calls Try.prog 55 #[.pointer (some ⟨g, 0, none⟩)] w fun e w' => ∃ X A1 n1 c1 A2 n2 c2, e = .returned (.tuple #[]) ∧ w' = (X.setCell ⟨g, 6, none⟩ (.slice A1 n1 c1)).setCell ⟨g, 8, none⟩ (.slice A2 n2 c2) ∧ Below w.heap.size w X ∧ OwnWs X B (.slice A1 n1 c1) (keptW D.nodes D.wa) ∧ OwnI X w.heap.size (.slice A2 n2 c2) (keptR D.nodes D.re D.wa) := by
  obtain ⟨ps, hT⟩ := hW
  have HTN : Hid (D.wa.length = tn) := Lib.hid (by obtain ⟨A', c', e', _⟩ := hT.read; injection e' with _ e2 _; exact e2.symm)
  obtain ⟨q, hq⟩ : ∃ q, 2 * ((D.nodes - 1) / 3) + 1 = q := ⟨_, rfl⟩
  have hq8 : 0 ≤ q ∧ q ≤ 100 := by omega
  have htn : tn ≤ 800000000 := by rw [← HTN.out]; exact hbw.1
  have HRN : Hid (D.re.length = rn ∧ IntsR w rA rn D.re) := Lib.hid (by
    obtain ⟨A', c', e', h1, _⟩ := hR.ints (by omega)
    injection e' with e1 e2 _
    rw [e1, e2]; exact ⟨rfl, h1⟩)
  have hrn : rn ≤ 800000000 := by rw [← HRN.out.1]; omega
  have HG := Lib.hid hg
  have HT := Lib.hid hT
  have HQ := Lib.hid hq
  have HRS := Lib.hid hris
  have HRE := Lib.hid hre
  have HBW := Lib.hid hbw
  have HHR := Lib.hid hR
  have hglt : g < w.heap.size := hg.lt
  have hfg := hg.frozen
  have hcg : Hid (∀ X, Below w.heap.size w X → Blk X g 97 [.int .i64 D.id, .int .i64 D.nodes, .int .i64 D.next, .slice oA on oc, .int .i64 D.age, .int .i64 D.clock, .slice tA tn tc, .slice eA en ec, .slice rA rn rc, .slice uA un uc]) := Lib.hid (fun X hX => HG.out.up hX)
  have a_0 := (hg.box).2 0 _ rfl; have a_1 := (hg.box).2 1 _ rfl; have a_2 := (hg.box).2 2 _ rfl; have a_3 := (hg.box).2 3 _ rfl; have a_4 := (hg.box).2 4 _ rfl; have a_5 := (hg.box).2 5 _ rfl; have a_6 := (hg.box).2 6 _ rfl; have a_7 := (hg.box).2 7 _ rfl; have a_8 := (hg.box).2 8 _ rfl; have a_9 := (hg.box).2 9 _ rfl
  clear hg hT hq hris hre hbw hR
  go_enter Try.func55, Try.ntmps55
  go_wp2_with fail
  refine (cloneO_Ints rA rn rc D.re _ HRN.out.2 (by omega)).mono ?_
  rintro e w1 ⟨v1, rfl, hr1, hb1⟩
  have hX1 := hcg.out w1 hb1
  have HR1 := Lib.hid hr1
  clear hr1 a_0 a_1 a_2 a_3 a_4 a_5 a_6 a_7 a_8 a_9
  have a_0 := (hX1.box).2 0 _ rfl; have a_1 := (hX1.box).2 1 _ rfl; have a_2 := (hX1.box).2 2 _ rfl; have a_3 := (hX1.box).2 3 _ rfl; have a_4 := (hX1.box).2 4 _ rfl; have a_5 := (hX1.box).2 5 _ rfl; have a_6 := (hX1.box).2 6 _ rfl; have a_7 := (hX1.box).2 7 _ rfl; have a_8 := (hX1.box).2 8 _ rfl; have a_9 := (hX1.box).2 9 _ rfl
  have hgl1 := hX1.lt
  clear hX1
  go_wp2_with fail
  clear a_0 a_1 a_2 a_3 a_4 a_5 a_6 a_7 a_8 a_9 hgl1
  go_loopw [2, 3, 18] (fun vl vr iv wr => ∃ (k : Nat) (qs : List Value), k ≤ tn ∧ iv = .int .i64 k ∧ Hid (qs.length = (keptW D.nodes (D.wa.take k)).length ∧ (∀ j, j < (keptW D.nodes (D.wa.take k)).length → OwnI w B (qs.getD j default) ((keptW D.nodes (D.wa.take k)).getD j default).ak)) ∧ Hid (wr.ownsRow w.heap.size 84 2 vl (keptW D.nodes (D.wa.take k)).length (dcells dWait (keptW D.nodes (D.wa.take k)) qs)) ∧ Hid (OwnI wr w.heap.size vr (keptR D.nodes D.re (D.wa.take k))) ∧ Below w.heap.size w wr) (fun _ _ iv _ => tn - (intOf iv).toNat)
  case atStart => exact ⟨0, [], Nat.zero_le _, rfl, Lib.hid ⟨rfl, fun j hj => absurd hj (by simp [keptW])⟩, Lib.hid (World.ownsRow_nil _ _ _ _), HR1, hb1⟩
  case round =>
    clear HR1 hb1
    obtain ⟨k, qs, hk, rfl, HQS, HROW, HRR, hbw⟩ := hrel
    (obtain ⟨wk, hwk⟩ : ∃ x, x = wr := ⟨_, rfl⟩); subst hwk
    have hXk := hcg.out wk hbw
    have hglk := hXk.lt
    have hfk := hXk.frozen
    have a_0 := (hXk.box).2 0 _ rfl; have a_1 := (hXk.box).2 1 _ rfl; have a_2 := (hXk.box).2 2 _ rfl; have a_3 := (hXk.box).2 3 _ rfl; have a_4 := (hXk.box).2 4 _ rfl; have a_5 := (hXk.box).2 5 _ rfl; have a_6 := (hXk.box).2 6 _ rfl; have a_7 := (hXk.box).2 7 _ rfl; have a_8 := (hXk.box).2 8 _ rfl; have a_9 := (hXk.box).2 9 _ rfl
    by_cases hlt : k < tn
    · have hT0 := HT.out.1
      rw [HTN.out] at hT0
      obtain ⟨gw, eA, hgwB, hgwl⟩ := own_nz hT0 (by omega)
      clear hT0
      subst eA
      have hkl : k < D.wa.length := by rw [HTN.out]; exact hlt
      obtain ⟨x, hx⟩ : ∃ x, D.wa.getD k default = x := ⟨_, rfl⟩
      obtain ⟨pk, hpk⟩ : ∃ pk, ps.getD k default = pk := ⟨_, rfl⟩
      have hxm : x ∈ D.wa := by rw [← hx]; exact getD_mem hkl
      have hin : OwnI w B pk x.ak := by rw [← hpk, ← hx]; exact HT.out.2.2 k hkl
      obtain ⟨Bk, ck, rfl, hik, _⟩ := hin.ints (by have := HBW.out.2 x hxm; omega)
      obtain ⟨m, hm⟩ : ∃ m, x.ak.length = m := ⟨_, rfl⟩
      rw [hm] at hpk hin hik
      have hT2 := HT.out.1
      rw [HTN.out] at hT2
      obtain ⟨gg, fg⟩ := own_get hT2
      have c0w : w.cell? ⟨gw, k * 2, none⟩ = some (.int .i64 x.di) := gg _ _ (by have := dcells_at dWait HT.out.2.1 hkl (r := 0) (by show 0 < 2; omega); rw [show k * 2 = k * dWait.k + 0 from rfl, this, hpk, hx]; rfl)
      have c1w : w.cell? ⟨gw, k * 2 + 1, none⟩ = some (.slice Bk m ck) := gg _ _ (by have := dcells_at dWait HT.out.2.1 hkl (r := 1) (by show 1 < 2; omega); rw [show k * 2 + 1 = k * dWait.k + 1 from rfl, this, hpk, hx]; rfl)
      have c0 : wk.cell? ⟨gw, k * 2, none⟩ = some (.int .i64 x.di) := ((bcell hbw).1 gw _ hgwl).trans c0w
      have c1 : wk.cell? ⟨gw, k * 2 + 1, none⟩ = some (.slice Bk m ck) := ((bcell hbw).1 gw _ hgwl).trans c1w
      have hglw : gw < wk.heap.size := Nat.lt_of_lt_of_le hgwl hbw.size
      have hxr := HRS.out x hxm
      have HXR := Lib.hid hxr
      have HIN := Lib.hid hin
      have HXD := Lib.hid hx
      have HM := Lib.hid hm
      have htk := take_wth D.wa k hkl
      rw [hx] at htk
      have HTK := Lib.hid htk
      have hba : Below wk.heap.size wk (wk.alloc (.cells #[.int .i64 x.di, .slice Bk m ck] 84)) := by (repeat (first | (with_reducible exact Below.refl _ _) | (with_reducible assumption) | (with_reducible apply bel_alloc) | (with_reducible apply bel_drew) | (with_reducible apply bel_drewN) | (with_reducible refine bel_trans ?_ (by with_reducible assumption)) | (with_reducible refine bel_trans ?_ (HF.out _)) | (with_reducible refine bel_set ?_ (by simp) _) | (with_reducible refine bel_set ?_ (by simp; omega) _) | (with_reducible refine bel_set ?_ (by omega) _)))
      have HAK : Hid (IntsR (wk.alloc (.cells #[.int .i64 x.di, .slice Bk m ck] 84)) Bk m x.ak) := Lib.hid ((hik.up hbw).up hba)
      have hA : BoxR (wk.alloc (.cells #[.int .i64 x.di, .slice Bk m ck] 84)) wk.heap.size [.int .i64 x.di, .slice Bk m ck] := BoxR.new wk [.int .i64 x.di, .slice Bk m ck] 84
      have hG2 := hXk.up hba
      have HG2 := Lib.hid hG2
      clear a_0 a_1 a_2 a_3 a_4 a_5 a_6 a_7 a_8 a_9 hXk
      have a_0 := (hG2.box).2 0 _ rfl; have a_1 := (hG2.box).2 1 _ rfl; have a_2 := (hG2.box).2 2 _ rfl; have a_3 := (hG2.box).2 3 _ rfl; have a_4 := (hG2.box).2 4 _ rfl; have a_5 := (hG2.box).2 5 _ rfl; have a_6 := (hG2.box).2 6 _ rfl; have a_7 := (hG2.box).2 7 _ rfl; have a_8 := (hG2.box).2 8 _ rfl; have a_9 := (hG2.box).2 9 _ rfl
      have b_0 := (hA).2 0 _ rfl; have b_1 := (hA).2 1 _ rfl
      have hgl2 := hG2.lt
      have hg10 : g < wk.heap.size := hglk
      clear hxr hin hx hm htk gg fg c0w c1w hT2 hik hA hG2 hxm hpk
      have hbk : Below w.heap.size w (wk.alloc (.cells #[.int .i64 x.di, .slice Bk m ck] 84)) := bel_trans hbw hba
      have HBA := Lib.hid hba
      have hlk : (keptW D.nodes (D.wa.take k)).length ≤ 800000000 := by
        refine Nat.le_trans (List.length_filter_le _ _) ?_
        rw [List.length_take]; omega
      have hrk : (keptR D.nodes D.re (D.wa.take k)).length ≤ 800000000 := by
        refine Nat.le_trans (keptR_len _ _ _) ?_
        rw [List.length_take]; have := HRE.out; omega
      have HLK := Lib.hid hlk
      have HRK := Lib.hid hrk
      clear hlk hrk
      by_cases hmq : (m : Int) < q
      · have hd : decide ((m : Int) < q) = true := by simpa using hmq
        have HK1 : Hid (keptW D.nodes (D.wa.take (k + 1)) = keptW D.nodes (D.wa.take k) ++ [x]) := Lib.hid (by
          rw [HTK.out]; unfold keptW; rw [List.filter_append]
          simp [show (x.ak.length : Int) < qS D.nodes by unfold qS; rw [HM.out, HQ.out]; exact hmq])
        have HK2 : Hid (keptR D.nodes D.re (D.wa.take (k + 1)) = keptR D.nodes D.re (D.wa.take k)) := Lib.hid (by
          rw [HTK.out, keptR_snoc, if_pos (by unfold qS; rw [HM.out, HQ.out]; exact hmq)])
        clear hmq
        go_wp2_with fail
        refine wp_region_fam (by kernel_rfl) (by kernel_rfl) (fun ι F hne hF hcl => ?_)
        have hcF0 := fun n o => (bcell (hF n)).1 (g) o (by first | (simp; done) | (simp; omega) | omega)
        have hcF1 := fun n o => (bcell (hF n)).1 (wk.heap.size) o (by first | (simp; done) | (simp; omega) | omega)
        have HF := Lib.hid hF; clear hF
        have HC := Lib.hid hcl; clear hcl
        repeat (any_goals (first
         | go_big_quiet_step (first | (go_at_call 77; exact Calls.fam_same (comm_Q D.nodes q _ hn1 (by omega) HQ.out)) | (go_at_call 76; exact Calls.fam HC.out (comm_Unlike Bk m ck x.ak D.nodes _ (HAK.out.up (HF.out _)) HXR.out hn16)))
         | (refine wpQuiet_guard _ _ _ rfl rfl ?_; (fail_if_success (intro b' hb; have h2 := hb.symm; have : b' = true := h2.trans (by with_reducible rfl))); (fail_if_success (intro b' hb; have h2 := hb.symm; have : b' = false := h2.trans (by with_reducible rfl))); intro b' hb; simp only [hb]; cases b' <;> (try simp only [Bool.not_eq_true', Bool.not_eq_false', decide_eq_true_eq, decide_eq_false_iff_not, Int.not_lt, Int.not_le, Bool.and_eq_true, Bool.or_eq_true, Bool.or_eq_false_iff, beq_iff_eq, beq_eq_false_iff_ne, Int.natCast_pos] at hb))))
        all_goals (refine wpQuiet_nil ?_; intro nq)
        have hFwf := HF.out nq
        clear HF HC hne
        generalize F nq = wf at *
        have hbf : Below w.heap.size w wf := bel_trans hbk hFwf
        have hkf : Below wk.heap.size wk wf := bel_trans HBA.out hFwf
        have HBX := Lib.hid (BoxR.new wf [.int .i64 x.di, .slice Bk m ck] 84)
        have hAf := (BoxR.new wk [.int .i64 x.di, .slice Bk m ck] 84).up hFwf
        have hGf := HG2.out.up hFwf
        have hgf := hGf.lt
        have haf := hAf.1
        have hff := hGf.frozen
        have d_0 := (hAf).2 0 _ rfl; have d_1 := (hAf).2 1 _ rfl
        have e_0 := (hGf.box).2 0 _ rfl; have e_1 := (hGf.box).2 1 _ rfl; have e_2 := (hGf.box).2 2 _ rfl; have e_3 := (hGf.box).2 3 _ rfl; have e_4 := (hGf.box).2 4 _ rfl; have e_5 := (hGf.box).2 5 _ rfl; have e_6 := (hGf.box).2 6 _ rfl; have e_7 := (hGf.box).2 7 _ rfl; have e_8 := (hGf.box).2 8 _ rfl; have e_9 := (hGf.box).2 9 _ rfl
        clear hAf hGf
        go_wp2_with (at_builtin; refine wpList_appWt rfl (.tmp 37) (.tmp 39) rfl rfl w.heap.size _ _ _ rfl (own_up HROW.out (by (repeat (first | (with_reducible exact Below.refl _ _) | (with_reducible assumption) | (with_reducible apply bel_alloc) | (with_reducible apply bel_drew) | (with_reducible apply bel_drewN) | (with_reducible refine bel_trans ?_ (by with_reducible assumption)) | (with_reducible refine bel_trans ?_ (HF.out _)) | ((with_reducible refine bel_set3 ?_ ?_); rotate_left; omega))))) _ [.int .i64 x.di, .slice Bk m ck] rfl rfl (fun j u hu => HBX.out.2 j u hu) (by simp [Value.oneCell']) (by have := HLK.out; omega) (by have := hbf.size; simp; omega) ?_; intro v5 w5 hown5 hg5 hb5)
        have hb5w : Below w.heap.size w w5 := Below.trans (by (repeat (first | (with_reducible exact Below.refl _ _) | (with_reducible assumption) | (with_reducible apply bel_alloc) | (with_reducible apply bel_drew) | (with_reducible apply bel_drewN) | (with_reducible refine bel_trans ?_ (by with_reducible assumption)) | (with_reducible refine bel_trans ?_ (HF.out _)) | ((with_reducible refine bel_set3 ?_ ?_); rotate_left; omega)))) hb5
        have hkept : Hid (OwnI w5 w.heap.size u3 (keptR D.nodes D.re (D.wa.take k))) := Lib.hid (own_farT (HRR.out.up (by (repeat (first | (with_reducible exact Below.refl _ _) | (with_reducible assumption) | (with_reducible apply bel_alloc) | (with_reducible apply bel_drew) | (with_reducible apply bel_drewN) | (with_reducible refine bel_trans ?_ (by with_reducible assumption)) | (with_reducible refine bel_trans ?_ (HF.out _)) | ((with_reducible refine bel_set3 ?_ ?_); rotate_left; omega))))) (own_up HROW.out (by (repeat (first | (with_reducible exact Below.refl _ _) | (with_reducible assumption) | (with_reducible apply bel_alloc) | (with_reducible apply bel_drew) | (with_reducible apply bel_drewN) | (with_reducible refine bel_trans ?_ (by with_reducible assumption)) | (with_reducible refine bel_trans ?_ (HF.out _)) | ((with_reducible refine bel_set3 ?_ ?_); rotate_left; omega))))) (by decide) hg5)
        (first | (go_round; (case rel => exact ⟨k + 1, qs ++ [.slice Bk m ck], by omega, by go_num, Lib.hid (by rw [HK1.out]; exact qs_snoc HQS.out HIN.out), Lib.hid (by rw [HK1.out]; exact row_snoc HQS.out.1 hown5), Lib.hid (by rw [HK2.out]; exact hkept.out), hb5w⟩); (case measure => (simp [intOf] <;> omega))) | (go_roundw; (case rel => exact ⟨k + 1, qs ++ [.slice Bk m ck], by omega, by go_num, Lib.hid (by rw [HK1.out]; exact qs_snoc HQS.out HIN.out), Lib.hid (by rw [HK1.out]; exact row_snoc HQS.out.1 hown5), Lib.hid (by rw [HK2.out]; exact hkept.out), hb5w⟩); (case measure => (simp [intOf] <;> omega))) | (refine ⟨?_, by simp [intOf] <;> omega⟩; (repeat apply Exists.intro); refine ⟨?rel, ?fr⟩; (case fr => ((repeat' apply And.intro) <;> rfl)); (case rel => exact ⟨k + 1, qs ++ [.slice Bk m ck], by omega, by go_num, Lib.hid (by rw [HK1.out]; exact qs_snoc HQS.out HIN.out), Lib.hid (by rw [HK1.out]; exact row_snoc HQS.out.1 hown5), Lib.hid (by rw [HK2.out]; exact hkept.out), hb5w⟩)))
      · have hd : decide ((m : Int) < q) = false := by simpa using hmq
        have HK1 : Hid (keptW D.nodes (D.wa.take (k + 1)) = keptW D.nodes (D.wa.take k)) := Lib.hid (by
          rw [HTK.out]; unfold keptW; rw [List.filter_append]
          simp [show ¬ (x.ak.length : Int) < qS D.nodes by unfold qS; rw [HM.out, HQ.out]; exact hmq])
        have HMQ := Lib.hid hmq
        obtain ⟨A2, c2, e2, hr2, _⟩ := HRR.out.ints (by have := HRK.out; omega)
        obtain ⟨n2, hn2⟩ : ∃ n2, (keptR D.nodes D.re (D.wa.take k)).length = n2 := ⟨_, rfl⟩
        rw [hn2] at e2 hr2
        subst e2
        have HR2 := Lib.hid hr2
        have HN2 := Lib.hid hn2
        obtain ⟨y, hy⟩ : ∃ y, memS (keptR D.nodes D.re (D.wa.take k)) x.di = y := ⟨_, rfl⟩
        have HY := Lib.hid hy
        have HKQ : Hid (keptR D.nodes D.re (D.wa.take (k + 1)) = if y then keptR D.nodes D.re (D.wa.take k) else keptR D.nodes D.re (D.wa.take k) ++ [x.di]) := Lib.hid (by
          rw [HTK.out, keptR_snoc, if_neg (by unfold qS; rw [HM.out, HQ.out]; exact hmq), hy])
        clear hr2 hn2 hmq hy
        go_wp2_with fail
        refine wp_region_fam (by kernel_rfl) (by kernel_rfl) (fun ι F hne hF hcl => ?_)
        have hcF0 := fun n o => (bcell (hF n)).1 (g) o (by first | (simp; done) | (simp; omega) | omega)
        have hcF1 := fun n o => (bcell (hF n)).1 (wk.heap.size) o (by first | (simp; done) | (simp; omega) | omega)
        have HF := Lib.hid hF; clear hF
        have HC := Lib.hid hcl; clear hcl
        repeat (any_goals (first
         | go_big_quiet_step (first | (go_at_call 77; exact Calls.fam_same (comm_Q D.nodes q _ hn1 (by omega) HQ.out)) | (go_at_call 76; exact Calls.fam HC.out (comm_Unlike Bk m ck x.ak D.nodes _ (HAK.out.up (HF.out _)) HXR.out hn16)))
         | (refine wpQuiet_guard _ _ _ rfl rfl ?_; (fail_if_success (intro b' hb; have h2 := hb.symm; have : b' = true := h2.trans (by with_reducible rfl))); (fail_if_success (intro b' hb; have h2 := hb.symm; have : b' = false := h2.trans (by with_reducible rfl))); intro b' hb; simp only [hb]; cases b' <;> (try simp only [Bool.not_eq_true', Bool.not_eq_false', decide_eq_true_eq, decide_eq_false_iff_not, Int.not_lt, Int.not_le, Bool.and_eq_true, Bool.or_eq_true, Bool.or_eq_false_iff, beq_iff_eq, beq_eq_false_iff_ne, Int.natCast_pos] at hb))))
        all_goals (refine wpQuiet_nil ?_; intro nq)
        have hFwf := HF.out nq
        clear HF HC hne
        generalize F nq = wf at *
        have hbf : Below w.heap.size w wf := bel_trans hbk hFwf
        have hkf : Below wk.heap.size wk wf := bel_trans HBA.out hFwf
        have HBX := Lib.hid (BoxR.new wf [.int .i64 x.di, .slice Bk m ck] 84)
        have hAf := (BoxR.new wk [.int .i64 x.di, .slice Bk m ck] 84).up hFwf
        have hGf := HG2.out.up hFwf
        have hgf := hGf.lt
        have haf := hAf.1
        have hff := hGf.frozen
        have d_0 := (hAf).2 0 _ rfl; have d_1 := (hAf).2 1 _ rfl
        have e_0 := (hGf.box).2 0 _ rfl; have e_1 := (hGf.box).2 1 _ rfl; have e_2 := (hGf.box).2 2 _ rfl; have e_3 := (hGf.box).2 3 _ rfl; have e_4 := (hGf.box).2 4 _ rfl; have e_5 := (hGf.box).2 5 _ rfl; have e_6 := (hGf.box).2 6 _ rfl; have e_7 := (hGf.box).2 7 _ rfl; have e_8 := (hGf.box).2 8 _ rfl; have e_9 := (hGf.box).2 9 _ rfl
        clear hAf hGf
        cases y
        · have HK2 : Hid (keptR D.nodes D.re (D.wa.take (k + 1)) = keptR D.nodes D.re (D.wa.take k) ++ [x.di]) := Lib.hid (by rw [HKQ.out]; rfl)
          clear HKQ
          go_wp2_with (first
            | (go_at_call 58; refine (slices_Contains A2 n2 c2 (keptR D.nodes D.re (D.wa.take k)) x.di false _ (HR2.out.up (by (repeat (first | (with_reducible exact Below.refl _ _) | (with_reducible assumption) | (with_reducible apply bel_alloc) | (with_reducible apply bel_drew) | (with_reducible apply bel_drewN) | (with_reducible refine bel_trans ?_ (by with_reducible assumption)) | (with_reducible refine bel_trans ?_ (HF.out _)) | ((with_reducible refine bel_set3 ?_ ?_); rotate_left; omega))))) HY.out).mono ?_; rintro e w6 ⟨rfl, hb6⟩; have hf6 := (BoxR.new wk [.int .i64 x.di, .slice Bk m ck] 84).up (bel_trans hFwf hb6); have hf6l := hf6.1; have f_0 := (hf6).2 0 _ rfl; have f_1 := (hf6).2 1 _ rfl; clear hf6; clear d_0 d_1 e_0 e_1 e_2 e_3 e_4 e_5 e_6 e_7 e_8 e_9)
            | (at_builtin; refine wpList_app1 rfl (.tmp 46) (.tmp 49) rfl w.heap.size (.slice A2 n2 c2) (keptR D.nodes D.re (D.wa.take k)) rfl (by (have h9 := HRR.out.up (w' := w6) (by (repeat (first | (with_reducible exact Below.refl _ _) | (with_reducible assumption) | (with_reducible apply bel_alloc) | (with_reducible apply bel_drew) | (with_reducible apply bel_drewN) | (with_reducible refine bel_trans ?_ (by with_reducible assumption)) | (with_reducible refine bel_trans ?_ (HF.out _)) | ((with_reducible refine bel_set3 ?_ ?_); rotate_left; omega))))); exact h9.alloc _) _ x.di rfl (cell0_alloc _ _ _) (by have := HRK.out; omega) (by have h9 := hbf.size; have h8 := hb6.size; simp; omega) ?_; intro v5 w5 hown5 hg5 hb5 hat5))
          have hb6w : Below w.heap.size w w6 := bel_trans hbf hb6
          have hb5w : Below w.heap.size w w5 := Below.trans (bel_alloc hb6w) hb5
          have hb6a : Below wk.heap.size wk (w6.alloc (.cells #[.int .i64 x.di] 3)) := bel_alloc (bel_trans hkf hb6)
          have hrow5 : Hid (w5.ownsRow w.heap.size 84 2 u2 (keptW D.nodes (D.wa.take k)).length (dcells dWait (keptW D.nodes (D.wa.take k)) qs)) := Lib.hid (own_farT (own_up HROW.out hb6a) (HRR.out.up hb6a) (by decide) hg5)
          (first | (go_round; (case rel => exact ⟨k + 1, qs, by omega, by go_num, Lib.hid (by rw [HK1.out]; exact HQS.out), Lib.hid (by rw [HK1.out]; exact hrow5.out), Lib.hid (by rw [HK2.out]; exact hown5), hb5w⟩); (case measure => (simp [intOf] <;> omega))) | (go_roundw; (case rel => exact ⟨k + 1, qs, by omega, by go_num, Lib.hid (by rw [HK1.out]; exact HQS.out), Lib.hid (by rw [HK1.out]; exact hrow5.out), Lib.hid (by rw [HK2.out]; exact hown5), hb5w⟩); (case measure => (simp [intOf] <;> omega))) | (refine ⟨?_, by simp [intOf] <;> omega⟩; (repeat apply Exists.intro); refine ⟨?rel, ?fr⟩; (case fr => ((repeat' apply And.intro) <;> rfl)); (case rel => exact ⟨k + 1, qs, by omega, by go_num, Lib.hid (by rw [HK1.out]; exact HQS.out), Lib.hid (by rw [HK1.out]; exact hrow5.out), Lib.hid (by rw [HK2.out]; exact hown5), hb5w⟩)))
        · have HK2 : Hid (keptR D.nodes D.re (D.wa.take (k + 1)) = keptR D.nodes D.re (D.wa.take k)) := Lib.hid (by rw [HKQ.out]; rfl)
          clear HKQ
          go_wp2_with (go_at_call 58; refine (slices_Contains A2 n2 c2 (keptR D.nodes D.re (D.wa.take k)) x.di true _ (HR2.out.up (by (repeat (first | (with_reducible exact Below.refl _ _) | (with_reducible assumption) | (with_reducible apply bel_alloc) | (with_reducible apply bel_drew) | (with_reducible apply bel_drewN) | (with_reducible refine bel_trans ?_ (by with_reducible assumption)) | (with_reducible refine bel_trans ?_ (HF.out _)) | ((with_reducible refine bel_set3 ?_ ?_); rotate_left; omega))))) HY.out).mono ?_; rintro e w6 ⟨rfl, hb6⟩)
          have hb6w : Below w.heap.size w w6 := bel_trans hbf hb6
          have hb6k : Below wk.heap.size wk w6 := bel_trans hkf hb6
          (first | (go_round; (case rel => exact ⟨k + 1, qs, by omega, by go_num, Lib.hid (by rw [HK1.out]; exact HQS.out), Lib.hid (by rw [HK1.out]; exact (own_up HROW.out hb6k)), Lib.hid (by rw [HK2.out]; exact (HRR.out.up hb6k)), hb6w⟩); (case measure => (simp [intOf] <;> omega))) | (go_roundw; (case rel => exact ⟨k + 1, qs, by omega, by go_num, Lib.hid (by rw [HK1.out]; exact HQS.out), Lib.hid (by rw [HK1.out]; exact (own_up HROW.out hb6k)), Lib.hid (by rw [HK2.out]; exact (HRR.out.up hb6k)), hb6w⟩); (case measure => (simp [intOf] <;> omega))) | (refine ⟨?_, by simp [intOf] <;> omega⟩; (repeat apply Exists.intro); refine ⟨?rel, ?fr⟩; (case fr => ((repeat' apply And.intro) <;> rfl)); (case rel => exact ⟨k + 1, qs, by omega, by go_num, Lib.hid (by rw [HK1.out]; exact HQS.out), Lib.hid (by rw [HK1.out]; exact (own_up HROW.out hb6k)), Lib.hid (by rw [HK2.out]; exact (HRR.out.up hb6k)), hb6w⟩)))
    · obtain rfl : k = tn := by omega
      have htl : D.wa.take k = D.wa := List.take_of_length_le (by rw [HTN.out]; omega)
      rw [htl] at HQS HROW HRR
      obtain ⟨n1, hn1⟩ : ∃ n1, (keptW D.nodes D.wa).length = n1 := ⟨_, rfl⟩
      have hn1b : n1 ≤ 900000000 := by rw [← hn1]; refine Nat.le_trans (List.length_filter_le _ _) ?_; rw [HTN.out]; omega
      rw [hn1] at HROW
      obtain ⟨A1, c1, rfl, _⟩ := own_row HROW.out (by omega)
      obtain ⟨A2, c2, e2, _⟩ := HRR.out.ints (by have := keptR_len D.nodes D.wa D.re; have := HRE.out; omega)
      obtain ⟨n2, hn2⟩ : ∃ n2, (keptR D.nodes D.re D.wa).length = n2 := ⟨_, rfl⟩
      rw [hn2] at e2
      subst e2
      have HN1 := Lib.hid hn1
      clear htl hn1 hn2 hn1b
      go_wp2_with fail
      go_end0
      exact ⟨wk, A1, n1, c1, A2, n2, c2, rfl, rfl, hbw, ⟨qs, by rw [HN1.out]; exact own_mono HROW.out hB, HQS.out.1, fun j hj => (HQS.out.2 j hj).up hbw⟩, HRR.out⟩
end Go.Proofs.Ytgfakefcmbpboaa
