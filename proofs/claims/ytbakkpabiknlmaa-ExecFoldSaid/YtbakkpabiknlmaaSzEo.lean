/- Exec: what is lacked, at the program, at the reference; the law ExecLacks. -/
import Derived.Test.YtbakkpabiknlmaaSzEm
import Derived.Deep.RegionHeld3
namespace Go.Proofs.Ytbakkpabiknlmaa
open Go.RowKit
set_option linter.unusedSimpArgs false
set_option linter.unusedVariables false

/-- Those that are not held. -/
noncomputable def missL (l : List HeldD) (ds : List Int) : List Int := ds.filter (fun d => !khasH l d)
theorem miss_take {l : List HeldD} {ds : List Int} {k : Nat} {x : Int} (h : k < ds.length) (hx : nth ds k = x) : missL l (ds.take (k + 1)) = missL l (ds.take k) ++ (if khasH l x = true then [] else [x]) := by
  unfold missL
  rw [take_nth ds k h, hx, List.filter_append]
  cases e : khasH l x <;> simp [e]
theorem miss_len {l : List HeldD} {ds : List Int} : (missL l ds).length ≤ ds.length := List.length_filter_le _ _
theorem nth_drop {s : List Int} {c j : Nat} : nth (s.drop c) j = nth s (c + j) := by simp [nth]
set_option maxRecDepth 100000 in
set_option maxHeartbeats 4000000 in
theorem exec_Missing (pA qA sA lA : Option Addr) (pn pc qn qc sn sc ln lc cn : Nat) (s : List Int) (l : List HeldD) (w : World) (hl : HeldsR w lA ln l) (hs : IntsR w sA sn s) (hH : MayHs l) (hcn : cn ≤ sn) (hsn : sn ≤ 1000000) (hsc : sn ≤ sc) (hln : ln ≤ 1000000) :
    Calls Try.prog 44 #[.agg #[.slice pA pn pc, .slice qA qn qc, .slice sA sn sc, .int .i64 cn], .slice lA ln lc] w fun e w' => ∃ v, e = .returned v ∧ OwnI w' w.heap.size v (missL l (s.drop cn)) ∧ Below w.heap.size w w' := by
  have HL := Lib.hid hl
  have HS := Lib.hid hs
  have HN := Lib.hid hs.1
  have HH := Lib.hid hH
  clear hl hs hH
  have hcc : cn ≤ sc := by omega
  go_enter Try.func44, Try.ntmps44
  rcases Nat.lt_or_ge cn sn with hc | hc
  · obtain ⟨sb, soff, rfl, -, -⟩ := HS.out.2.2 (by omega)
    have hne : ¬ (sc = cn) := by omega
    have hne2 : ¬ (cn = sc) := by omega
    obtain ⟨m, hm⟩ : ∃ m, sn - cn = m := ⟨_, rfl⟩
    go_wp2_with fail
    go_loopw [4, 15] (fun v i wr => ∃ j : Nat, j ≤ m ∧ i = .int .i64 j ∧ Hid (OwnI wr (w.heap.size + 1) v (missL l ((s.drop cn).take j))) ∧ Below w.heap.size w wr) (fun _ i _ => m - (intOf i).toNat)
    case atStart => exact ⟨0, by omega, rfl, Lib.hid (OwnI.nil _ _), by (repeat (first | (with_reducible exact Below.refl _ _) | (with_reducible assumption) | (with_reducible apply bel_alloc) | (with_reducible apply bel_drew) | (with_reducible apply bel_drewN) | (with_reducible refine bel_trans ?_ (by with_reducible assumption)) | (with_reducible refine bel_trans ?_ (HF.out _)) | (with_reducible refine bel_set ?_ (by simp) _) | (with_reducible refine bel_set ?_ (by simp; omega) _) | (with_reducible refine bel_set ?_ (by omega) _)))⟩
    case round =>
      obtain ⟨j, hj, rfl, HO, hbw⟩ := hrel
      (obtain ⟨wk, hwk⟩ : ∃ x, x = wr := ⟨_, rfl⟩); subst hwk
      by_cases hlt : j < m
      · obtain ⟨b, off, e, hb, hc⟩ := (HS.out.up hbw).2.2 (by omega)
        injection e with e; injection e with e1 e2; subst e1; subst e2
        have hck := hc (cn + j) (by omega)
        rw [← Nat.add_assoc] at hck
        clear hc
        obtain ⟨x, hx⟩ : ∃ x, nth s (cn + j) = x := ⟨_, rfl⟩
        rw [hx] at hck
        have hmt := miss_take (l := l) (ds := s.drop cn) (k := j) (x := x) (by simp [HN.out]; omega) (by rw [nth_drop]; exact hx)
        have HMT := Lib.hid hmt
        have hml : (missL l ((s.drop cn).take j)).length ≤ sn := Nat.le_trans miss_len (by simp; omega)
        have HML := Lib.hid hml
        obtain ⟨lo, hlo⟩ : ∃ lo, kposH l x = lo := ⟨_, rfl⟩
        have HLO := Lib.hid hlo
        clear hx hmt hml hlo
        cases hk : khasH l x
        · have HK := Lib.hid hk
          clear hk
          go_wp2_with (first
            | (go_at_call 54; refine (worker_At lA ln lc l x lo false _ (HL.out.up (by (repeat (first | (with_reducible exact Below.refl _ _) | (with_reducible assumption) | (with_reducible apply bel_alloc) | (with_reducible apply bel_drew) | (with_reducible apply bel_drewN) | (with_reducible refine bel_trans ?_ (by with_reducible assumption)) | (with_reducible refine bel_trans ?_ (HF.out _)) | (with_reducible refine bel_set ?_ (by simp) _) | (with_reducible refine bel_set ?_ (by simp; omega) _) | (with_reducible refine bel_set ?_ (by omega) _))))) HH.out.sorted (by omega) HLO.out HK.out).mono ?_; rintro e w2 ⟨rfl, hb2⟩; have hz2 := hb2.size; have hzk := hbw.size)
            | (at_builtin; refine wpList_app1 rfl (.tmp 27) (.tmp 29) rfl (w.heap.size + 1) _ _ rfl ((HO.out.up hb2).alloc _) _ x rfl (cell0_alloc _ _ _) (by have := HML.out; omega) (by simp; omega) ?_; intro v1 w1 hown1 hg1 hbel1 hat1))
          have hb1 : Below w.heap.size w w1 := (bel_trans hbw (bel_trans hb2 (by (repeat (first | (with_reducible exact Below.refl _ _) | (with_reducible assumption) | (with_reducible apply bel_alloc) | (with_reducible apply bel_drew) | (with_reducible apply bel_drewN) | (with_reducible refine bel_trans ?_ (by with_reducible assumption)) | (with_reducible refine bel_trans ?_ (HF.out _)) | (with_reducible refine bel_set ?_ (by simp) _) | (with_reducible refine bel_set ?_ (by simp; omega) _) | (with_reducible refine bel_set ?_ (by omega) _)))))).trans (hbel1.mono (by omega))
          have hown2 : OwnI w1 (w.heap.size + 1) v1 (missL l ((s.drop cn).take (j + 1))) := by rw [HMT.out, if_neg (by rw [HK.out]; simp)]; exact hown1
          (first | (go_round; (case rel => exact ⟨j + 1, by omega, by go_num, Lib.hid hown2, hb1⟩); (case measure => (simp [intOf] <;> omega))) | (go_roundw; (case rel => exact ⟨j + 1, by omega, by go_num, Lib.hid hown2, hb1⟩); (case measure => (simp [intOf] <;> omega))) | (refine ⟨?_, by simp [intOf] <;> omega⟩; (repeat apply Exists.intro); refine ⟨?rel, ?fr⟩; (case fr => ((repeat' apply And.intro) <;> rfl)); (case rel => exact ⟨j + 1, by omega, by go_num, Lib.hid hown2, hb1⟩)))
        · have HK := Lib.hid hk
          clear hk
          go_wp2_with (go_at_call 54; refine (worker_At lA ln lc l x lo true _ (HL.out.up (by (repeat (first | (with_reducible exact Below.refl _ _) | (with_reducible assumption) | (with_reducible apply bel_alloc) | (with_reducible apply bel_drew) | (with_reducible apply bel_drewN) | (with_reducible refine bel_trans ?_ (by with_reducible assumption)) | (with_reducible refine bel_trans ?_ (HF.out _)) | (with_reducible refine bel_set ?_ (by simp) _) | (with_reducible refine bel_set ?_ (by simp; omega) _) | (with_reducible refine bel_set ?_ (by omega) _))))) HH.out.sorted (by omega) HLO.out HK.out).mono ?_; rintro e w2 ⟨rfl, hb2⟩)
          have hown2 : OwnI w2 (w.heap.size + 1) u4 (missL l ((s.drop cn).take (j + 1))) := by rw [HMT.out, if_pos HK.out, List.append_nil]; exact HO.out.up hb2
          (first | (go_round; (case rel => exact ⟨j + 1, by omega, by go_num, Lib.hid hown2, bel_trans hbw hb2⟩); (case measure => (simp [intOf] <;> omega))) | (go_roundw; (case rel => exact ⟨j + 1, by omega, by go_num, Lib.hid hown2, bel_trans hbw hb2⟩); (case measure => (simp [intOf] <;> omega))) | (refine ⟨?_, by simp [intOf] <;> omega⟩; (repeat apply Exists.intro); refine ⟨?rel, ?fr⟩; (case fr => ((repeat' apply And.intro) <;> rfl)); (case rel => exact ⟨j + 1, by omega, by go_num, Lib.hid hown2, bel_trans hbw hb2⟩)))
      · have e : (s.drop cn).take j = s.drop cn := List.take_of_length_le (by simp [HN.out]; omega)
        have hO := HO.out
        rw [e] at hO
        go_wp2_with fail
        go_ret
        exact ⟨_, rfl, OwnI.mono hO (by omega), hbw⟩
  · obtain rfl : cn = sn := by omega
    have e : missL l (s.drop cn) = [] := by rw [List.drop_of_length_le (by rw [HN.out]; omega)]; rfl
    rw [e]
    clear hc hcn
    by_cases hce : cn = sc
    case' pos => subst hce
    case' neg => have hne2 : ¬ (sc = cn) := fun h => hce h.symm
    all_goals
      cases sA
      all_goals
        go_wp2_with fail
        go_loop [4, 15] (fun v i => v = .slice none 0 0 ∧ i = .int .i64 0) (fun _ _ => 0)
        case atStart => exact ⟨rfl, rfl⟩
        case round =>
          obtain ⟨rfl, rfl⟩ := hrel
          go_wp2_with fail
          go_ret
          exact ⟨_, rfl, OwnI.nil _ _, by (repeat (first | (with_reducible exact Below.refl _ _) | (with_reducible assumption) | (with_reducible apply bel_alloc) | (with_reducible apply bel_drew) | (with_reducible apply bel_drewN) | (with_reducible refine bel_trans ?_ (by with_reducible assumption)) | (with_reducible refine bel_trans ?_ (HF.out _)) | (with_reducible refine bel_set ?_ (by simp) _) | (with_reducible refine bel_set ?_ (by simp; omega) _) | (with_reducible refine bel_set ?_ (by omega) _)))⟩
set_option maxRecDepth 100000 in
set_option maxHeartbeats 4000000 in
theorem exec_Lacks_ok (pA qA sA lA : Option Addr) (pn pc qn qc sn sc ln lc : Nat) (cn : Nat) (p : List PairD) (q : List AcctD) (s : List Int) (l : List HeldD) (w : World) (hp : PairsR w pA pn p) (hq : AcctsR w qA qn q) (hs : IntsR w sA sn s) (hl : HeldsR w lA ln l) (h1 : exB p q s cn = true) (h2 : hdB l = true) (h3 : sn ≤ 1000000) (h4 : ln ≤ 1000000) (h5 : sn ≤ sc) :
    Calls Try.prog 18 #[.agg #[.slice pA pn pc, .slice qA qn qc, .slice sA sn sc, .int .i64 cn], .slice lA ln lc] w fun e w' => ∃ v, e = .returned (.tuple #[v, .int .i64 0]) ∧ OwnI w' w.heap.size v (missL l (s.drop cn)) ∧ Below w.heap.size w w' := by
  have HP := Lib.hid hp
  have HQ := Lib.hid hq
  have HS := Lib.hid hs
  have HL := Lib.hid hl
  have HY1 := Lib.hid h1
  have HY2 := Lib.hid h2
  have hcn : cn ≤ sn := by have := (exB_iff.1 h1).2.2.2; rw [hs.1] at this; omega
  clear hp hq hs hl h1 h2
  go_enter Try.func18, Try.ntmps18
  go_wp2_with (first | (go_at_call 28; refine (exec_May pA qA sA pn pc qn qc sn sc p q s cn _ _ (HP.out.up (by (repeat (first | (with_reducible exact Below.refl _ _) | (with_reducible assumption) | (with_reducible apply bel_alloc) | (with_reducible apply bel_drew) | (with_reducible apply bel_drewN) | (with_reducible refine bel_trans ?_ (by with_reducible assumption)) | (with_reducible refine bel_trans ?_ (HF.out _)) | (with_reducible refine bel_set ?_ (by simp) _) | (with_reducible refine bel_set ?_ (by simp; omega) _) | (with_reducible refine bel_set ?_ (by omega) _))))) (HQ.out.up (by (repeat (first | (with_reducible exact Below.refl _ _) | (with_reducible assumption) | (with_reducible apply bel_alloc) | (with_reducible apply bel_drew) | (with_reducible apply bel_drewN) | (with_reducible refine bel_trans ?_ (by with_reducible assumption)) | (with_reducible refine bel_trans ?_ (HF.out _)) | (with_reducible refine bel_set ?_ (by simp) _) | (with_reducible refine bel_set ?_ (by simp; omega) _) | (with_reducible refine bel_set ?_ (by omega) _))))) (HS.out.up (by (repeat (first | (with_reducible exact Below.refl _ _) | (with_reducible assumption) | (with_reducible apply bel_alloc) | (with_reducible apply bel_drew) | (with_reducible apply bel_drewN) | (with_reducible refine bel_trans ?_ (by with_reducible assumption)) | (with_reducible refine bel_trans ?_ (HF.out _)) | (with_reducible refine bel_set ?_ (by simp) _) | (with_reducible refine bel_set ?_ (by simp; omega) _) | (with_reducible refine bel_set ?_ (by omega) _))))) HY1.out).mono ?_; rintro e w1 ⟨rfl, hb1⟩; have hE1 := (BoxR.new w [.slice pA pn pc, .slice qA qn qc, .slice sA sn sc, .int .i64 cn] 28).up hb1; have hbw1 : Below w.heap.size w w1 := (by (repeat (first | (with_reducible exact Below.refl _ _) | (with_reducible assumption) | (with_reducible apply bel_alloc) | (with_reducible apply bel_drew) | (with_reducible apply bel_drewN) | (with_reducible refine bel_trans ?_ (by with_reducible assumption)) | (with_reducible refine bel_trans ?_ (HF.out _)) | (with_reducible refine bel_set ?_ (by simp) _) | (with_reducible refine bel_set ?_ (by simp; omega) _) | (with_reducible refine bel_set ?_ (by omega) _)))); have HE1 := Lib.hid hE1; have hel := hE1.1; have g_0 := (hE1).2 0 _ rfl; have g_1 := (hE1).2 1 _ rfl; have g_2 := (hE1).2 2 _ rfl; have g_3 := (hE1).2 3 _ rfl; clear hE1) | (go_at_call 34; refine (worker_MayHeld lA ln lc l _ _ (HL.out.up hbw1) HY2.out).mono ?_; rintro e w2 ⟨rfl, hb2⟩; have hbw2 : Below w.heap.size w w2 := bel_trans hbw1 hb2; have hE2 := HE1.out.up hb2; clear g_0 g_1 g_2 g_3 hel; have hel := hE2.1; have g_0 := (hE2).2 0 _ rfl; have g_1 := (hE2).2 1 _ rfl; have g_2 := (hE2).2 2 _ rfl; have g_3 := (hE2).2 3 _ rfl; clear hE2) | (go_at_call 44; refine (exec_Missing pA qA sA lA pn pc qn qc sn sc ln lc cn s l _ (HL.out.up hbw2) (HS.out.up hbw2) (hdB_iff.1 HY2.out) hcn h3 h5 h4).mono ?_; rintro e w3 ⟨v, rfl, hown, hb3⟩))
  go_ret2
  exact ⟨_, rfl, OwnI.mono hown hbw2.size, by (repeat (first | (with_reducible exact Below.refl _ _) | (with_reducible assumption) | (with_reducible apply bel_alloc) | (with_reducible apply bel_drew) | (with_reducible apply bel_drewN) | (with_reducible refine bel_trans ?_ (by with_reducible assumption)) | (with_reducible refine bel_trans ?_ (HF.out _)) | ((with_reducible refine bel_set3 ?_ ?_); rotate_left; omega)))⟩
end Go.Proofs.Ytbakkpabiknlmaa
