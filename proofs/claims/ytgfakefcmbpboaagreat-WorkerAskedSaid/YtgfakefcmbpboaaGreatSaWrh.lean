/- One more is held, at the page: Step.holds. -/
import Derived.Test.YtgfakefcmbpboaaGreatSaWro
import Derived.Test.YtgfakefcmbpboaaGreatSaWsf
namespace Go.Proofs.YtgfakefcmbpboaaGreat
open Go.RowKit
set_option linter.unusedSimpArgs false
set_option linter.unusedVariables false

theorem own_slice {w : World} {B k n : Nat} {t : TypeId} {v : Value} {xs : List Value} (h : w.ownsRow B t k v n xs) : ∃ A m c, v = .slice A m c := by
  rcases own_shape h with ⟨e, _⟩ | ⟨g, c, e, _⟩
  · exact ⟨_, _, _, e⟩
  · exact ⟨_, _, _, e⟩
noncomputable def holdsEnd : Code := cAfter 4 (Tryz.f84.body.getD .skip)
set_option maxRecDepth 100000 in
set_option maxHeartbeats 16000000 in
theorem holds_rest {K1 : Act → World → Prop} (g B lo : Nat) (k0 k1 k2 k3 k4 k5 k6 k8 k9 : Value) (eA bA : Option Addr) (en ec bn bc : Nat) (l : List HeldD) (d : Int) (b : BatchD) (ps : List Value) (w wk : World) {u2 u3 u4 u7 u8 u9 u10 u11 u12 u13 u14 u15 u16 u17 u18 u19 u20 u21 u22 u23 u24 u25 u26 u27 u28 u29 u30 u31 u32 u33 u34 u35 u36 u37 u38 u39 u40 u41 u42 u43 u44 u45 u46 u47 u48 u49 u50 u51 u52 u53 u54 u55 u56 u57 u58 u59 u60 u61 u62 u63 u64 u65 u66 u67 u68 u69 u70 : Value}
    (hK1 : ∀ a' w', Code.wp Tryz.prog (cSnd holdsEnd) (bodyPost Tryz.prog Tryz.f84 (fun e w' => ∃ X A n c, e = .returned (.tuple #[]) ∧ w' = X.setCell ⟨g, 7, none⟩ (.slice A n c) ∧ Below w.heap.size w X ∧ OwnHs X B (.slice A n c) (insAt l (kposH l d) ⟨d, b⟩))) a' w' → K1 a' w')
    (hbw : Below w.heap.size w wk) (hg : Blk wk g 70 [k0, k1, k2, k3, k4, k5, k6, .slice eA en ec, k8, k9]) (hgw : g < w.heap.size) (hbx : Blk wk w.heap.size 43 [.int .i64 b.au, .int .i64 b.n, .slice bA bn bc]) (hB : B ≤ w.heap.size) (hT : OwnT dHeld w B (.slice eA en ec) ps l) (hs : BigH l) (hb : TxsR w bA bn b.tx) (hbn : bn ≤ 800000000) (hlo : kposH l d = lo) (hll : l.length < 1024) :
    Code.wp Tryz.prog (cFst holdsEnd) (Exit.then K1 (bodyPost Tryz.prog Tryz.f84 (fun e w' => ∃ X A n c, e = .returned (.tuple #[]) ∧ w' = X.setCell ⟨g, 7, none⟩ (.slice A n c) ∧ Below w.heap.size w X ∧ OwnHs X B (.slice A n c) (insAt l (kposH l d) ⟨d, b⟩)))) { tmps := #[.pointer (some ⟨g, 0, none⟩), .int .i64 d, u2, u3, u4, .pointer (some ⟨w.heap.size, 0, none⟩), .int .i64 (lo : Int), u7, u8, u9, u10, u11, u12, u13, u14, u15, u16, u17, u18, u19, u20, u21, u22, u23, u24, u25, u26, u27, u28, u29, u30, u31, u32, u33, u34, u35, u36, u37, u38, u39, u40, u41, u42, u43, u44, u45, u46, u47, u48, u49, u50, u51, u52, u53, u54, u55, u56, u57, u58, u59, u60, u61, u62, u63, u64, u65, u66, u67, u68, u69, u70], defers := [] } wk := by
  obtain ⟨A', c', e', hR, hnc, _⟩ := OwnHs.helds ⟨ps, hT⟩ hs
  injection e' with e1 e2 e3
  rw [← e1, ← e2] at hR
  have HEN : Hid (l.length = en) := Lib.hid e2.symm
  have hlole : lo ≤ en := by
    have : kposH l d ≤ l.length := cnt_le _ _
    rw [hlo, e2.symm] at this; exact this
  have hecn : en ≤ ec := by omega
  have hlc : lo ≤ ec := by omega
  have henb : en < 1024 := by omega
  clear e1 e2 e3 hnc
  have hRV : RowV w eA en 4 (dcells dHeld l ps) := by
    obtain ⟨A2, c2, e2, hrv, _⟩ := own_row hT.1 (by omega)
    injection e2 with e3 e4 e5
    rw [HEN.out] at hrv
    rw [e3]; exact hrv
  have hone : ∀ u ∈ dcells dHeld l ps, u.oneCell' = true := dcells_oneK dHeld hT.2.1 (fun j hj => hT.2.2 j hj)
  have HON := Lib.hid hone
  have HRV := Lib.hid hRV
  have HR := Lib.hid hR
  have HB := Lib.hid hb
  have HBN : Hid (b.tx.length = bn) := Lib.hid hb.1
  have HT := Lib.hid hT
  have HBT : Hid (BigH (l.take lo)) := Lib.hid ⟨by rw [List.length_take]; omega, fun x hx => hs.2 x (List.mem_of_mem_take hx)⟩
  have HLO := Lib.hid hlo
  have HLL : Hid (lo ≤ l.length) := Lib.hid (by rw [HEN.out]; exact hlole)
  have HGK := Lib.hid hg
  have HBK := Lib.hid hbx
  have HBX : Hid (Below wk.heap.size wk wk) := Lib.hid (Below.refl _ _)
  have HK1 := Lib.hid hK1
  clear hR hRV hone hb hT hs hlo hg hbx hK1 hll
  dsimp only [holdsEnd, cAfter, cSnd, cFst, Tryz.f84, Option.getD]
  obtain ⟨S, hSd⟩ : ∃ S : World → Prop, S = fun Q => Q.cell? ⟨g, 7, none⟩ = some (.slice eA en ec) ∧ Blk Q w.heap.size 43 [.int .i64 b.au, .int .i64 b.n, .slice bA bn bc] := ⟨_, rfl⟩
  have hS7 : ∀ Q, S Q → Q.cell? ⟨g, 7, none⟩ = some (.slice eA en ec) := fun Q h => by rw [hSd] at h; exact h.1
  have hSb : ∀ Q, S Q → Q.rangeAt w.heap.size 0 [.int .i64 b.au, .int .i64 b.n, .slice bA bn bc] := fun Q h => by rw [hSd] at h; exact fun j u hu => by (rw [Nat.zero_add]); exact h.2.box.2 j u hu
  have hS : ∀ Q, Below wk.heap.size wk Q → S Q := fun Q hQ => by rw [hSd]; exact ⟨(HGK.out.up hQ).box.2 7 _ rfl, HBK.out.up hQ⟩
  clear hSd
  refine wp_region_held_drew (S := S) (by kernel_rfl) (hS _ (bel_drew (Below.refl _ _))) (fun hHeld => ?_)
  have hbd : Below wk.heap.size wk wk.drew := bel_drew (Below.refl _ _)
  have hZ := hHeld
  generalize wk.drew = Z0 at *
  (refine wpAnyH_tk 0 (some 44) (v := ?_) rfl rfl ?_ ?_; rotate_left; (focus (intro wq hSw; clear hSw; go_simp; all_goals (with_reducible rfl))); simp only [Act.put, lzT, lzZ, lzS])
  (refine wpAnyH_tk 1 (some 45) (v := ?_) rfl rfl ?_ ?_; rotate_left; (focus (intro wq hSw; clear hSw; go_simp; all_goals (with_reducible rfl))); simp only [Act.put, lzT, lzZ, lzS])
  (refine wpAnyH_tk 2 (some 46) (v := ?_) rfl rfl ?_ ?_; rotate_left; (focus (intro wq hSw; clear hSw; go_simp; all_goals (with_reducible rfl))); simp only [Act.put, lzT, lzZ, lzS])
  (refine wpAnyH_tk 3 (some 47) (v := ?_) rfl rfl ?_ ?_; rotate_left; (focus (intro wq hSw; clear hSw; go_simp; all_goals (with_reducible rfl))); simp only [Act.put, lzT, lzZ, lzS])
  (refine wpAnyH_tk 4 (some 48) (v := ?_) rfl rfl ?_ ?_; rotate_left; (focus (intro wq hSw; have q1 := hS7 wq hSw; clear hSw; go_simp; all_goals (with_reducible rfl))); simp only [Act.put, lzT, lzZ, lzS])
  (refine wpAnyH_tk 5 (some 49) (v := ?_) rfl rfl ?_ ?_; rotate_left; (focus (intro wq hSw; clear hSw; go_simp; all_goals (with_reducible rfl))); simp only [Act.put, lzT, lzZ, lzS])
  (refine wpAnyH_tk 6 (some 50) (v := ?_) rfl rfl ?_ ?_; rotate_left; (focus (intro wq hSw; clear hSw; go_simp; all_goals (with_reducible rfl))); simp only [Act.put, lzT, lzZ, lzS])
  (refine wpAnyH_tk 8 (some 52) (v := ?_) rfl rfl ?_ ?_; rotate_left; (focus (intro wq hSw; clear hSw; go_simp; all_goals (with_reducible rfl))); simp only [Act.put, lzT, lzZ, lzS])
  refine wpAnyH_takeD (i := 9) (d := (some 53)) (v := .agg ([.int .i64 b.au, .int .i64 b.n, .slice bA bn bc]).toArray) rfl rfl (by kernel_rfl) (by kernel_rfl) (by kernel_rfl) (fun _ _ _ h => h) (yieldsIf_load_mid (by rfl) 43 _ rfl w.heap.size 0 (by simp [Act.eval, Act.put]) ([.int .i64 b.au, .int .i64 b.n, .slice bA bn bc]) _ (hSb) Tryz.underlying43 (by rfl) (by kernel_rfl)) (by assumption) ?_
  simp only [Act.put, lzT, lzZ, lzS]
  refine wpAnyH_ready (rs := [7]) (by kernel_rfl) (by simp) ?_
  refine AllReadyH.cons (o := _) rfl (fun K hK => ?_) AllReadyH.nil
  go_simp
  (go_at_call 28; refine (ref0_CopyHelds eA lo _ (l.take lo) _ ((HR.out.up (bel_trans hbw (bel_trans HBX.out hbd))).takeN hlole) HBT.out).mono ?_; rintro e w3 ⟨v3, rfl, ⟨qs, ho3⟩, hb3⟩)
  have hbd3 := bel_trans hbd hb3
  have HO3 := Lib.hid ho3
  clear ho3
  refine hK.out _ _ (hS _ hbd3) (fun hHeld => ?_)
  clear hK K
  (try simp only [Act.put, lzT, lzZ, lzS])
  refine wpAnyH_ready (rs := [10]) (by kernel_rfl) (by simp) ?_
  refine AllReadyH.cons (o := _) rfl (fun K hK => ?_) AllReadyH.nil
  go_simp
  (go_at_call 86; refine (ref0_CopyBatchO b bA bn bc _ (HB.out.up (bel_trans hbw (bel_trans HBX.out hbd3))) hbn).mono ?_; rintro e w4 ⟨v4, rfl, ho4, hb4⟩; obtain ⟨A4, c4, rfl, -⟩ := ho4.txs (by rw [HBN.out]; omega); rw [HBN.out] at ho4 ⊢)
  have hbd4 := bel_trans hbd3 hb4
  have HO4 := Lib.hid ho4
  clear ho4
  refine hK.out _ _ (hS _ hbd4) (fun hHeld => ?_)
  clear hK K
  (try simp only [Act.put, lzT, lzZ, lzS])
  (refine wpAnyH_tk 11 (some 55) (v := ?_) rfl rfl ?_ ?_; rotate_left; (focus (intro wq hSw; clear hSw; go_simp; all_goals (with_reducible rfl))); simp only [Act.put, lzT, lzZ, lzS])
  refine wpAnyH_ready (rs := [12]) (by kernel_rfl) (by simp) ?_
  refine AllReadyH.cons (o := _) rfl (fun K hK => ?_) AllReadyH.nil
  go_simp
  obtain ⟨NB, hNB⟩ : ∃ N, N = w4.heap.size := ⟨_, rfl⟩
  obtain ⟨ZB, hZB⟩ : ∃ Zq : World, Zq = w4.alloc (.cells #[.int .i64 d, .int .i64 b.au, .int .i64 b.n, .slice A4 bn c4] 101) := ⟨_, rfl⟩
  rw [← hNB, ← hZB]
  have hkB : BoxR ZB NB [.int .i64 d, .int .i64 b.au, .int .i64 b.n, .slice A4 bn c4] := by rw [hZB, hNB]; exact BoxR.new _ [.int .i64 d, .int .i64 b.au, .int .i64 b.n, .slice A4 bn c4] 101
  have hbB : Below w4.heap.size w4 ZB := by rw [hZB]; exact bel_alloc (Below.refl _ _)
  have hbd5 := bel_trans hbd4 hbB
  clear hNB hZB
  refine hK.out _ _ (hS _ hbd5) (fun hHeld => ?_)
  clear hK K
  (try simp only [Act.put, lzT, lzZ, lzS])
  refine wpAnyH_ready (rs := [13]) (by kernel_rfl) (by simp) ?_
  refine AllReadyH.cons (o := _) rfl (fun K hK => ?_) AllReadyH.nil
  have hrow3 := own_up HO3.out.1 (bel_trans hb4 hbB)
  rw [List.length_take, Nat.min_eq_left HLL.out] at hrow3
  refine step_appRow_Held rfl (.tmp 51) (.tmp 56) rfl rfl Z0.heap.size v3 lo _ (by simp [Act.eval, Act.put]) hrow3 (some ⟨NB, 0, none⟩) 1 1 [.int .i64 d, .int .i64 b.au, .int .i64 b.n, .slice A4 bn c4] (by simp [Act.eval, Act.put]) ⟨rfl, by omega, fun _ => ⟨NB, 0, rfl, hkB.1, fun j u hu => by rw [Nat.zero_add]; exact hkB.2 j u hu⟩⟩ (by simp [Value.oneCell']) (by omega) (by have := hb3.size; have := hb4.size; have := hbB.size; omega) ?_
  intro v7 w7 hown7 hg7 hb7
  have hb7k : Below wk.heap.size wk w7 := hbd5.trans (hb7.mono hbd.size)
  refine hK.out _ _ (hS _ hb7k) (fun hHeld => ?_)
  clear hK K
  (try simp only [Act.put, lzT, lzZ, lzS])
  (refine wpAnyH_tk 14 (some 7) (v := ?_) rfl rfl ?_ ?_; rotate_left; (focus (intro wq hSw; clear hSw; go_simp; all_goals (with_reducible rfl))); simp only [Act.put, lzT, lzZ, lzS])
  refine wpAnyH_done (by kernel_rfl) ?_ _
  have hq3 : ∀ j, j < lo → OwnX w7 Z0.heap.size (qs.getD j default) (l.getD j default).b.tx := fun j hj => by
    have h1 := HO3.out.2.2 j (by rw [List.length_take, Nat.min_eq_left HLL.out]; exact hj)
    have e1 : (l.take lo).getD j default = l.getD j default := by simp [hj]
    rw [e1] at h1
    exact own_farT (own_up (show World.ownsRow _ _ 41 4 _ _ _ from h1) (bel_trans hb4 hbB)) hrow3 (by decide) hg7
  have hq4 : OwnX w7 Z0.heap.size (.slice A4 bn c4) b.tx := own_farT (own_up (own_mono (show World.ownsRow _ _ 41 4 _ _ _ from HO4.out) hb3.size) hbB) hrow3 (by decide) hg7
  have hql : qs.length = lo := by have := HO3.out.2.1; rw [List.length_take, Nat.min_eq_left HLL.out] at this; exact this
  have HQ3 := Lib.hid hq3
  have HQ4 := Lib.hid hq4
  have HQL := Lib.hid hql
  have HO7 := Lib.hid hown7
  have HB7 := Lib.hid hb7k
  have hz0 := hbd.size
  have HG7 := Lib.hid (HGK.out.up hb7k)
  have fG := HG7.out.frozen
  have lG := HG7.out.lt
  have a_0 := (HG7.out.box).2 0 _ rfl; have a_1 := (HG7.out.box).2 1 _ rfl; have a_2 := (HG7.out.box).2 2 _ rfl; have a_3 := (HG7.out.box).2 3 _ rfl; have a_4 := (HG7.out.box).2 4 _ rfl; have a_5 := (HG7.out.box).2 5 _ rfl; have a_6 := (HG7.out.box).2 6 _ rfl; have a_7 := (HG7.out.box).2 7 _ rfl; have a_8 := (HG7.out.box).2 8 _ rfl; have a_9 := (HG7.out.box).2 9 _ rfl
  have hRV := (HRV.out.up (bel_trans hbw (bel_trans HBX.out hb7k)))
  have HRV7 := Lib.hid hRV
  have hbe : B ≤ wk.heap.size := Nat.le_trans hB (Nat.le_trans hbw.size HBX.out.size)
  have HZ7 := Lib.hid hb7
  clear hq3 hq4 hql hown7 hb7k hRV hrow3 hkB hbB hg7 hb7 hbd5 hbd4 hbd3 hb3 hb4 hS hSb hS7 hHeld hZ
  show K1 _ _
  apply HK1.out
  dsimp only [holdsEnd, cAfter, cSnd, cFst, Tryz.f84, Option.getD]
  rcases own_shape HT.out.1 with ⟨e, h0⟩ | ⟨ge, ce, e, hge, hce0⟩
  · injection e with e1 e2 e3
    subst e1; subst e2; subst e3
    have hlo0 : lo = 0 := by omega
    subst hlo0
    have hen0 : l.length - 0 = 0 := by have := HEN.out; omega
    rcases own_shape HO7.out with ⟨_, h0⟩ | ⟨g7, c7, e7, hg7B, hc7⟩
    · omega
    · subst e7
      have hc8 : ¬ c7 < 0 + 1 := by omega
      go_wp2_with fail
      go_end0
      refine ⟨w7, _, _, _, rfl, rfl, bel_trans hbw (bel_trans HBX.out HB7.out), ?_⟩
      have hps : ∀ j, 0 ≤ j → j < l.length → OwnX w7 B (ps.getD j default) (l.getD j default).b.tx := fun j _ hj => absurd hj (by omega)
      rw [HLO.out]
      exact ⟨_, ownT_ins dHeld HQL.out HLL.out HT.out.2.1 (by (rw [hen0, List.drop_of_length_le (by rw [HRV.out.1]; first | exact Nat.le_refl _ | simp), List.append_nil]); exact own_mono HO7.out (Nat.le_trans hbe hz0)) (fun j hj => own_mono (show World.ownsRow _ _ 41 4 _ _ _ from HQ3.out j hj) (Nat.le_trans hbe hz0)) (own_mono (show World.ownsRow _ _ 41 4 _ _ _ from HQ4.out) (Nat.le_trans hbe hz0)) hps⟩
  · injection e with e1 e2 e3
    subst e1
    clear e2 e3
    by_cases hce : ec = lo
    · have hen2 : en = ec := by omega
      subst hen2
      subst hce
      have hen0 : l.length - en = 0 := by have := HEN.out; omega
      rcases own_shape HO7.out with ⟨_, h0⟩ | ⟨g7, c7, e7, hg7B, hc7⟩
      · omega
      · subst e7
        have hc8 : ¬ c7 < en + 1 := by omega
        go_wp2_with fail
        go_end0
        refine ⟨w7, _, _, _, rfl, rfl, bel_trans hbw (bel_trans HBX.out HB7.out), ?_⟩
        have hps : ∀ j, en ≤ j → j < l.length → OwnX w7 B (ps.getD j default) (l.getD j default).b.tx := fun j _ hj => absurd hj (by omega)
        rw [HLO.out]
        exact ⟨_, ownT_ins dHeld HQL.out HLL.out HT.out.2.1 (by (rw [hen0, List.drop_of_length_le (by rw [HRV.out.1]; first | exact Nat.le_refl _ | simp), List.append_nil]); exact own_mono HO7.out (Nat.le_trans hbe hz0)) (fun j hj => own_mono (show World.ownsRow _ _ 41 4 _ _ _ from HQ3.out j hj) (Nat.le_trans hbe hz0)) (own_mono (show World.ownsRow _ _ 41 4 _ _ _ from HQ4.out) (Nat.le_trans hbe hz0)) hps⟩
    · skip
      have hce2 : ¬ lo = ec := fun e => hce e.symm
      go_wp2_with (at_builtin; refine wpList_appRow_Held rfl (.tmp 59) (.tmp 66) rfl rfl wk.heap.size v7 _ _ rfl (own_mono HO7.out hz0) _ (en - lo) _ ((dcells dHeld l ps).drop (lo * 4)) rfl (by first | exact HRV7.out.dropK hlole | (rw [show en - lo = 0 by omega, List.drop_of_length_le (by rw [HRV7.out.1]; omega)]; exact RowV.nilA _ _)) (fun u hu => HON.out u (List.mem_of_mem_drop hu)) (by omega) (by have := HB7.out.size; omega) ?_; intro v9 w9 hown9 hg9 hb9; (obtain ⟨A9, n9, c9, e9⟩ := own_slice hown9); subst e9; have hG9 := HG7.out.below hb9 (Nat.lt_of_lt_of_le hgw (Nat.le_trans hbw.size HBX.out.size)); have fG := hG9.frozen; have lG := hG9.lt; clear a_0 a_1 a_2 a_3 a_4 a_5 a_6 a_7 a_8 a_9; have a_0 := (hG9.box).2 0 _ rfl; have a_1 := (hG9.box).2 1 _ rfl; have a_2 := (hG9.box).2 2 _ rfl; have a_3 := (hG9.box).2 3 _ rfl; have a_4 := (hG9.box).2 4 _ rfl; have a_5 := (hG9.box).2 5 _ rfl; have a_6 := (hG9.box).2 6 _ rfl; have a_7 := (hG9.box).2 7 _ rfl; have a_8 := (hG9.box).2 8 _ rfl; have a_9 := (hG9.box).2 9 _ rfl; clear hG9)
      go_end0
      refine ⟨w9, A9, n9, c9, rfl, rfl, (bel_trans hbw (bel_trans HBX.out HB7.out)).trans (hb9.mono (Nat.le_trans hbw.size HBX.out.size)), ?_⟩
      have hps : ∀ j, lo ≤ j → j < l.length → OwnX w9 B (ps.getD j default) (l.getD j default).b.tx := fun j _ hj => own_up (show World.ownsRow _ B 41 4 _ _ _ from HT.out.2.2 j hj) ((bel_trans hbw (bel_trans HBX.out HB7.out)).trans (hb9.mono (Nat.le_trans hbw.size HBX.out.size)))
      rw [HLO.out]
      exact ⟨_, ownT_ins dHeld HQL.out HLL.out HT.out.2.1 (by (have e1 : lo + 1 + (l.length - lo) = lo + 1 + (en - lo) := by rw [HEN.out]); rw [e1]; exact own_mono hown9 hbe) (fun j hj => own_farT (own_mono (show World.ownsRow _ _ 41 4 _ _ _ from HQ3.out j hj) (Nat.le_trans hbe hz0)) (own_mono HO7.out hz0) (by decide) hg9) (own_farT (own_mono (show World.ownsRow _ _ 41 4 _ _ _ from HQ4.out) (Nat.le_trans hbe hz0)) (own_mono HO7.out hz0) (by decide) hg9) hps⟩
set_option maxRecDepth 100000 in
set_option maxHeartbeats 4000000 in
theorem ref13_holds_yes (g B : Nat) (k0 k1 k2 k3 k4 k5 k6 k8 k9 : Value) (eA bA : Option Addr) (en ec bn bc : Nat) (l : List HeldD) (d : Int) (b : BatchD) (w : World) (hg : Blk w g 70 [k0, k1, k2, k3, k4, k5, k6, .slice eA en ec, k8, k9]) (hB : B ≤ w.heap.size) (hh : OwnHs w B (.slice eA en ec) l) (hs : BigH l) (hP : SortedH l) (hb : TxsR w bA bn b.tx) (hbn : bn ≤ 800000000) (hy : khasH l d = false) (hll : l.length < 1024) :
    Calls Tryz.prog 84 #[.pointer (some ⟨g, 0, none⟩), .int .i64 d, .agg #[.int .i64 b.au, .int .i64 b.n, .slice bA bn bc]] w fun e w' => ∃ X A n c, e = .returned (.tuple #[]) ∧ w' = X.setCell ⟨g, 7, none⟩ (.slice A n c) ∧ Below w.heap.size w X ∧ OwnHs X B (.slice A n c) (insAt l (kposH l d) ⟨d, b⟩) := by
  obtain ⟨ps, hT⟩ := hh
  obtain ⟨A', c', e', hR, _⟩ := OwnHs.helds ⟨ps, hT⟩ hs
  injection e' with e1 e2 e3
  rw [← e1, ← e2] at hR
  have HEN : Hid (l.length = en) := Lib.hid e2.symm
  clear e1 e3
  have henb : en < 1024 := by omega
  have hd9 : decide (1024 ≤ (en : Int)) = false := by simp only [decide_eq_false_iff_not]; omega
  have hF : findI l d = -1 := by unfold findI; rw [if_neg (by rw [hy]; simp)]
  obtain ⟨lo, hlo⟩ : ∃ lo, kposH l d = lo := ⟨_, rfl⟩
  have hlole : lo ≤ en := by
    have : kposH l d ≤ l.length := cnt_le _ _
    rw [hlo, e2.symm] at this; exact this
  have HLT : Hid (∀ k, k < lo → decide ((hth l k).di < d) = true) := Lib.hid (fun k hk => by rw [← hlo] at hk; exact cnt_lt _ l hk)
  have HST : Hid (lo < en → decide ((hth l lo).di < d) = false) := Lib.hid (fun h => by (have h2 := cnt_stop (fun x : HeldD => ltI x.di d) l (by show kposH l d < l.length; rw [hlo, HEN.out]; exact h)); rw [show cnt (fun x : HeldD => ltI x.di d) l = lo from hlo] at h2; exact h2)
  have HFI := Lib.hid hF
  have HR := Lib.hid hR
  have HT := Lib.hid hT
  have HS := Lib.hid hs
  have HP := Lib.hid hP
  have HB := Lib.hid hb
  have HLO := Lib.hid hlo
  have HG := Lib.hid hg
  have HLL := Lib.hid hll
  have hgw := hg.lt
  clear hg hR hT hs hP hb hlo hF e2 hy hll
  go_enter Tryz.func84, Tryz.ntmps84
  have hbX0 : Below w.heap.size w (w.alloc (.cells #[.int .i64 b.au, .int .i64 b.n, .slice bA bn bc] 43)) := belA
  have hXB : Blk (w.alloc (.cells #[.int .i64 b.au, .int .i64 b.n, .slice bA bn bc] 43)) w.heap.size 43 [.int .i64 b.au, .int .i64 b.n, .slice bA bn bc] := Blk.new w 43 [.int .i64 b.au, .int .i64 b.n, .slice bA bn bc]
  go_upto_region 1 with fail
  generalize (w.alloc (.cells #[.int .i64 b.au, .int .i64 b.n, .slice bA bn bc] 43)) = X at *
  have HGX := Lib.hid (HG.out.up hbX0)
  have HXB := Lib.hid hXB
  have lgx := HGX.out.lt
  have a_0 := (HGX.out.box).2 0 _ rfl; have a_1 := (HGX.out.box).2 1 _ rfl; have a_2 := (HGX.out.box).2 2 _ rfl; have a_3 := (HGX.out.box).2 3 _ rfl; have a_4 := (HGX.out.box).2 4 _ rfl; have a_5 := (HGX.out.box).2 5 _ rfl; have a_6 := (HGX.out.box).2 6 _ rfl; have a_7 := (HGX.out.box).2 7 _ rfl; have a_8 := (HGX.out.box).2 8 _ rfl; have a_9 := (HGX.out.box).2 9 _ rfl
  clear hXB
  go_wp2_with (go_at_call 83; refine (ref13_find g _ _ _ _ _ _ _ _ _ eA en ec l d _ HGX.out (HR.out.up hbX0) HP.out).mono ?_; rintro e w' ⟨rfl, rfl⟩; rw [HFI.out])
  clear lgx a_0 a_1 a_2 a_3 a_4 a_5 a_6 a_7 a_8 a_9
  go_loopw [6] (fun iv wr => ∃ k : Nat, k ≤ lo ∧ iv = .int .i64 k ∧ Below X.heap.size X wr) (fun iv _ => lo - (intOf iv).toNat)
  case atStart => exact ⟨0, Nat.zero_le _, rfl, Below.refl _ _⟩
  case round =>
    obtain ⟨k, hk, rfl, hbk⟩ := hrel
    (obtain ⟨wk, hwk⟩ : ∃ x, x = wr := ⟨_, rfl⟩); subst hwk
    have HGK := Lib.hid (HGX.out.up hbk)
    have hbw : Below w.heap.size w wk := bel_trans hbX0 hbk
    have lgk := HGK.out.lt
    have a_0 := (HGK.out.box).2 0 _ rfl; have a_1 := (HGK.out.box).2 1 _ rfl; have a_2 := (HGK.out.box).2 2 _ rfl; have a_3 := (HGK.out.box).2 3 _ rfl; have a_4 := (HGK.out.box).2 4 _ rfl; have a_5 := (HGK.out.box).2 5 _ rfl; have a_6 := (HGK.out.box).2 6 _ rfl; have a_7 := (HGK.out.box).2 7 _ rfl; have a_8 := (HGK.out.box).2 8 _ rfl; have a_9 := (HGK.out.box).2 9 _ rfl
    by_cases hlt : k < lo
    · have hken : k < en := by omega
      obtain ⟨b9, o9, e9, hb9, hc9⟩ := (HR.out.up hbw).2.2 (by omega)
      subst e9
      obtain ⟨Bq, mq, dq, ⟨f0, f1, f2, f3⟩, -⟩ := hc9 k hken
      have hdt : decide ((hth l k).di < d) = true := HLT.out k hlt
      have hkl : decide ((k : Int) < (en : Int)) = true := by simp only [decide_eq_true_eq]; omega
      have hkl2 : (k : Int) < (en : Int) := by omega
      clear hc9
      go_wp2_with fail
      (first | (go_round; (case rel => exact ⟨k + 1, by omega, by go_num, hbk⟩); (case measure => (simp [intOf] <;> omega))) | (go_roundw; (case rel => exact ⟨k + 1, by omega, by go_num, hbk⟩); (case measure => (simp [intOf] <;> omega))) | (refine ⟨?_, by simp [intOf] <;> omega⟩; (repeat apply Exists.intro); refine ⟨?rel, ?fr⟩; (case fr => ((repeat' apply And.intro) <;> rfl)); (case rel => exact ⟨k + 1, by omega, by go_num, hbk⟩)))
    · have ekn : lo = k := by omega
      subst ekn
      rcases Nat.lt_or_ge lo en with hkn | hkn
      · obtain ⟨b9, o9, e9, hb9, hc9⟩ := (HR.out.up hbw).2.2 (by omega)
        subst e9
        obtain ⟨Bq, mq, dq, ⟨f0, f1, f2, f3⟩, -⟩ := hc9 lo hkn
        have hdt : decide ((hth l lo).di < d) = false := HST.out hkn
        have hkl : decide ((lo : Int) < (en : Int)) = true := by simp only [decide_eq_true_eq]; omega
        have hkl2 : (lo : Int) < (en : Int) := by omega
        clear hc9
        go_upto_region 5 with fail
        rename_i K1 hK1
        exact holds_rest g B lo k0 k1 k2 k3 k4 k5 k6 k8 k9 _ bA en ec bn bc l d b ps w wk hK1 hbw HGK.out hgw (HXB.out.up hbk) hB HT.out HS.out HB.out hbn HLO.out HLL.out
      · have hkl : decide ((lo : Int) < (en : Int)) = false := by simp only [decide_eq_false_iff_not]; omega
        go_upto_region 5 with fail
        rename_i K1 hK1
        exact holds_rest g B lo k0 k1 k2 k3 k4 k5 k6 k8 k9 _ bA en ec bn bc l d b ps w wk hK1 hbw HGK.out hgw (HXB.out.up hbk) hB HT.out HS.out HB.out hbn HLO.out HLL.out
set_option maxRecDepth 100000 in
set_option maxHeartbeats 4000000 in
theorem ref13_holds_no (g : Nat) (k0 k1 k2 k3 k4 k5 k6 k8 k9 : Value) (eA bA : Option Addr) (en ec bn bc : Nat) (l : List HeldD) (d : Int) (b : BatchD) (w : World) (hg : Blk w g 70 [k0, k1, k2, k3, k4, k5, k6, .slice eA en ec, k8, k9]) (hR : HeldsR w eA en l) (hP : SortedH l) (hy : khasH l d = true ∨ (khasH l d = false ∧ 1024 ≤ l.length)) :
    Calls Tryz.prog 84 #[.pointer (some ⟨g, 0, none⟩), .int .i64 d, .agg #[.int .i64 b.au, .int .i64 b.n, .slice bA bn bc]] w fun e w' => e = .returned (.tuple #[]) ∧ Below w.heap.size w w' := by
  have HR := Lib.hid hR
  have HP := Lib.hid hP
  have HG := Lib.hid hg
  have HEN := Lib.hid hR.1
  clear hg hR hP
  go_enter Tryz.func84, Tryz.ntmps84
  have hbX0 : Below w.heap.size w (w.alloc (.cells #[.int .i64 b.au, .int .i64 b.n, .slice bA bn bc] 43)) := belA
  go_upto_region 1 with fail
  generalize (w.alloc (.cells #[.int .i64 b.au, .int .i64 b.n, .slice bA bn bc] 43)) = X at *
  have HGX := Lib.hid (HG.out.up hbX0)
  have lgx := HGX.out.lt
  have a_0 := (HGX.out.box).2 0 _ rfl; have a_1 := (HGX.out.box).2 1 _ rfl; have a_2 := (HGX.out.box).2 2 _ rfl; have a_3 := (HGX.out.box).2 3 _ rfl; have a_4 := (HGX.out.box).2 4 _ rfl; have a_5 := (HGX.out.box).2 5 _ rfl; have a_6 := (HGX.out.box).2 6 _ rfl; have a_7 := (HGX.out.box).2 7 _ rfl; have a_8 := (HGX.out.box).2 8 _ rfl; have a_9 := (HGX.out.box).2 9 _ rfl
  rcases hy with hy | ⟨hy, hle⟩
  · have hF : findI l d = (kposH l d : Int) := by unfold findI; rw [if_pos hy]
    have HFI := Lib.hid hF
    have hdp : decide (0 ≤ (kposH l d : Int)) = true := by simp only [decide_eq_true_eq]; omega
    clear hy hF
    go_wp2_with (go_at_call 83; refine (ref13_find g _ _ _ _ _ _ _ _ _ eA en ec l d _ HGX.out (HR.out.up hbX0) HP.out).mono ?_; rintro e w' ⟨rfl, rfl⟩; rw [HFI.out])
    exact bodyPost_ret (v := .tuple #[]) (by simp [results, Tryz.results84, go_sem]) rfl ⟨rfl, hbX0⟩
  · have hF : findI l d = -1 := by unfold findI; rw [if_neg (by rw [hy]; simp)]
    have HFI := Lib.hid hF
    have hd9 : decide (1024 ≤ (en : Int)) = true := by rw [HEN.out] at hle; simp only [decide_eq_true_eq]; omega
    clear hy hF hle
    go_wp2_with (go_at_call 83; refine (ref13_find g _ _ _ _ _ _ _ _ _ eA en ec l d _ HGX.out (HR.out.up hbX0) HP.out).mono ?_; rintro e w' ⟨rfl, rfl⟩; rw [HFI.out])
    exact bodyPost_ret (v := .tuple #[]) (by simp [results, Tryz.results84, go_sem]) rfl ⟨rfl, hbX0⟩
end Go.Proofs.YtgfakefcmbpboaaGreat
