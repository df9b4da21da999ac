/- Exec: what is lacked, at the program, at the reference; the law ExecLacks. -/
import Derived.Test.YtbakkpabiknlmaaGreatSyEm
import Derived.Deep.RegionHeld3
namespace Go.Proofs.YtbakkpabiknlmaaGreat
open Go.RowKit
set_option linter.unusedSimpArgs false
set_option linter.unusedVariables false

/-- Where a digest is held, one by one; -1: nowhere. -/
def hatF (d : Int) : Int → List HeldD → Int
  | _, [] => -1
  | i, c :: l => if c.di = d then i else hatF d (i + 1) l
def hatS (l : List HeldD) (d : Int) : Int := hatF d 0 l
theorem drop_hth (l : List HeldD) (k : Nat) (h : k < l.length) : l.drop k = hth l k :: l.drop (k + 1) := by
  rw [List.drop_eq_getElem_cons h]; simp [hth, h]
theorem hatF_step (d : Int) (l : List HeldD) (k : Nat) (h : k < l.length) : hatF d k (l.drop k) = if (hth l k).di = d then (k : Int) else hatF d ((k + 1 : Nat) : Int) (l.drop (k + 1)) := by
  rw [drop_hth l k h, hatF]; simp
theorem hatF_neg (d : Int) : ∀ (l : List HeldD) (i : Int), 0 ≤ i → (hatF d i l < 0 ↔ ∀ x ∈ l, x.di ≠ d)
  | [], i, h => by simp [hatF]
  | c :: l, i, h => by
    unfold hatF
    by_cases e : c.di = d
    · rw [if_pos e]; simp [e]; omega
    · rw [if_neg e, hatF_neg d l (i + 1) (by omega)]; simp [e]
theorem hatF_some (d : Int) : ∀ (l : List HeldD) (i : Nat), 0 ≤ hatF d i l → ∃ j, j < l.length ∧ hatF d i l = ((i + j : Nat) : Int) ∧ (hth l j).di = d
  | [], i, h => by simp [hatF] at h
  | c :: l, i, h => by
    unfold hatF at h ⊢
    by_cases e : c.di = d
    · rw [if_pos e]; exact ⟨0, by simp, by simp, e⟩
    · rw [if_neg e] at h ⊢
      have h' : 0 ≤ hatF d ((i + 1 : Nat) : Int) l := by simpa using h
      obtain ⟨j, hj, h1, h2⟩ := hatF_some d l (i + 1) h'
      refine ⟨j + 1, by simp; omega, ?_, by simpa [hth] using h2⟩
      have h1' : hatF d ((i : Int) + 1) l = ((i + 1 + j : Nat) : Int) := by simpa using h1
      rw [h1']; congr 1; omega
theorem hat_has {l : List HeldD} (hH : MayHs l) (d : Int) : hatS l d < 0 ↔ khasH l d = false := by
  unfold hatS
  rw [hatF_neg d l 0 (by omega)]
  constructor
  · intro h
    cases e : khasH l d
    · rfl
    · obtain ⟨j, hj, ej⟩ := (khasH_iff hH.sorted).1 e
      exact absurd ej (h _ (by unfold hth; simp [hj]))
  · intro h x hx ex
    obtain ⟨j, hj, e⟩ := List.getElem_of_mem hx
    have : khasH l d = true := (khasH_iff hH.sorted).2 ⟨j, hj, by simp [hth, hj, e, ex]⟩
    rw [h] at this; cases this
theorem hat_pos {l : List HeldD} (hH : MayHs l) {d : Int} (h : khasH l d = true) : hatS l d = (kposH l d : Int) := by
  have h0 : 0 ≤ hatS l d := by
    have := hat_has hH d
    rcases Int.lt_or_le (hatS l d) 0 with h1 | h1
    · rw [this.1 h1] at h; cases h
    · exact h1
  obtain ⟨j, hj, h1, h2⟩ := hatF_some d l 0 h0
  obtain ⟨k1, k2⟩ := khasH_lt rfl h
  have h1' : hatF d 0 l = ((0 + j : Nat) : Int) := by simpa using h1
  unfold hatS
  rw [h1']
  have hs := hH.sorted
  have : j = kposH l d := by
    rcases Nat.lt_trichotomy j (kposH l d) with g | g | g
    · have := hs _ _ g k1; rw [h2, k2] at this; simp [ltI] at this
    · exact g
    · have := hs _ _ g hj; rw [h2, k2] at this; simp [ltI] at this
  simp [this]
set_option maxRecDepth 100000 in
set_option maxHeartbeats 2000000 in
theorem ref22_at (A : Option Addr) (n c : Nat) (l : List HeldD) (d z : Int) (w : World) (hl : HeldsR w A n l) (hz : hatS l d = z) :
    Calls Tryz.prog 34 #[.slice A n c, .int .i64 d] w fun e w' => e = .returned (.int .i64 z) ∧ Below w.heap.size w w' := by
  have HL := Lib.hid hl
  have HN := Lib.hid hl.1
  have HZ := Lib.hid hz
  have hnn : n ≤ 9223372036854775807 := hl.2.1
  clear hl hz
  go_enter Tryz.func34, Tryz.ntmps34
  go_wp2_with fail
  go_loopw [5] (fun i wr => ∃ k : Nat, k ≤ n ∧ i = .int .i64 k ∧ Hid (hatF d k (l.drop k) = z) ∧ Below w.heap.size w wr) (fun i _ => n - (intOf i).toNat)
  case atStart => exact ⟨0, Nat.zero_le _, rfl, Lib.hid (by have := HZ.out; unfold hatS at this; simpa using this), Below.refl _ _⟩
  case round =>
    obtain ⟨k, hk, rfl, hr, hbw⟩ := hrel
    (obtain ⟨wk, hwk⟩ : ∃ x, x = wr := ⟨_, rfl⟩); subst hwk
    by_cases hlt : k < n
    · obtain ⟨b, off, rfl, hb, hc⟩ := (HL.out.up hbw).2.2 (by omega)
      obtain ⟨B, m, dd, ⟨c0, c1, c2, c3⟩, -⟩ := hc k hlt
      have hst := hatF_step d l k (by rw [HN.out]; exact hlt)
      rw [hr.out] at hst
      obtain ⟨y, hy⟩ : ∃ y, (hth l k).di = y := ⟨_, rfl⟩
      rw [hy] at hst c0
      have HST := Lib.hid hst
      clear hc c1 c2 c3 hst hy
      by_cases hyd : y = d
      · have hyb : (y == d) = true := by simpa using hyd
        have hz2 : z = (k : Int) := by rw [HST.out, if_pos hyd]
        clear hyd
        subst hz2
        go_wp2_with fail
        go_ret
        exact ⟨rfl, hbw⟩
      · have hyb : (y == d) = false := by simpa using hyd
        have HZ2 : Hid (hatF d ((k + 1 : Nat) : Int) (l.drop (k + 1)) = z) := Lib.hid (by rw [HST.out, if_neg hyd])
        clear hyd
        go_wp2_with fail
        (first | (go_round; (case rel => exact ⟨k + 1, by omega, by go_num, HZ2, hbw⟩); (case measure => (simp [intOf] <;> omega))) | (go_roundw; (case rel => exact ⟨k + 1, by omega, by go_num, HZ2, hbw⟩); (case measure => (simp [intOf] <;> omega))) | (refine ⟨?_, by simp [intOf] <;> omega⟩; (repeat apply Exists.intro); refine ⟨?rel, ?fr⟩; (case fr => ((repeat' apply And.intro) <;> rfl)); (case rel => exact ⟨k + 1, by omega, by go_num, HZ2, hbw⟩)))
    · have hz2 : z = -1 := by
        rw [← hr.out, List.drop_of_length_le (by rw [HN.out]; omega)]; rfl
      subst hz2
      go_wp2_with fail
      go_ret
      exact ⟨rfl, hbw⟩
/-- Those that are not held. -/
noncomputable def missL (l : List HeldD) (ds : List Int) : List Int := ds.filter (fun d => !khasH l d)
theorem miss_take {l : List HeldD} {ds : List Int} {k : Nat} {x : Int} (h : k < ds.length) (hx : nth ds k = x) : missL l (ds.take (k + 1)) = missL l (ds.take k) ++ (if khasH l x = true then [] else [x]) := by
  unfold missL
  rw [take_nth ds k h, hx, List.filter_append]
  cases e : khasH l x <;> simp [e]
theorem miss_len {l : List HeldD} {ds : List Int} : (missL l ds).length ≤ ds.length := List.length_filter_le _ _
theorem nth_drop {s : List Int} {c j : Nat} : nth (s.drop c) j = nth s (c + j) := by simp [nth]
set_option maxRecDepth 100000 in
set_option maxHeartbeats 4000000 in
theorem ref22_Lacks (pA qA sA lA : Option Addr) (pn pc qn qc sn sc ln lc cn : Nat) (s : List Int) (l : List HeldD) (w : World) (hl : HeldsR w lA ln l) (hs : IntsR w sA sn s) (hH : MayHs l) (hcn : cn ≤ sn) (hsn : sn ≤ 1000000) :
    Calls Tryz.prog 15 #[.agg #[.slice pA pn pc, .slice qA qn qc, .slice sA sn sc, .int .i64 cn], .slice lA ln lc] w fun e w' => ∃ v, e = .returned v ∧ OwnI w' w.heap.size v (missL l (s.drop cn)) ∧ Below w.heap.size w w' := by
  have HL := Lib.hid hl
  have HS := Lib.hid hs
  have HN := Lib.hid hs.1
  have HH := Lib.hid hH
  clear hl hs hH
  go_enter Tryz.func15, Tryz.ntmps15
  go_wp2_with fail
  go_loopw [5, 6] (fun v i wr => ∃ j : Nat, cn + j ≤ sn ∧ i = .int .i64 ((cn + j : Nat) : Int) ∧ Hid (OwnI wr (w.heap.size + 1) v (missL l ((s.drop cn).take j))) ∧ Hid (BoxR wr w.heap.size [.slice pA pn pc, .slice qA qn qc, .slice sA sn sc, .int .i64 cn]) ∧ Below w.heap.size w wr) (fun _ i _ => sn - (intOf i).toNat)
  case atStart => exact ⟨0, by omega, by simp, Lib.hid (OwnI.nil _ _), Lib.hid (BoxR.new w [.slice pA pn pc, .slice qA qn qc, .slice sA sn sc, .int .i64 cn] 28), by (repeat (first | (with_reducible exact Below.refl _ _) | (with_reducible assumption) | (with_reducible apply bel_alloc) | (with_reducible apply bel_drew) | (with_reducible apply bel_drewN) | (with_reducible refine bel_trans ?_ (by with_reducible assumption)) | (with_reducible refine bel_trans ?_ (HF.out _)) | (with_reducible refine bel_set ?_ (by simp) _) | (with_reducible refine bel_set ?_ (by simp; omega) _) | (with_reducible refine bel_set ?_ (by omega) _)))⟩
  case round =>
    obtain ⟨j, hj, rfl, HO, HB, hbw⟩ := hrel
    (obtain ⟨wk, hwk⟩ : ∃ x, x = wr := ⟨_, rfl⟩); subst hwk
    have b_0 := (HB.out).2 0 _ rfl; have b_1 := (HB.out).2 1 _ rfl; have b_2 := (HB.out).2 2 _ rfl; have b_3 := (HB.out).2 3 _ rfl
    have hg0 := HB.out.1
    by_cases hlt : cn + j < sn
    · obtain ⟨b, off, rfl, hb, hc⟩ := (HS.out.up hbw).2.2 (by omega)
      have hck := hc (cn + j) hlt
      clear hc
      obtain ⟨x, hx⟩ : ∃ x, nth s (cn + j) = x := ⟨_, rfl⟩
      rw [hx] at hck
      have hmt := miss_take (l := l) (ds := s.drop cn) (k := j) (x := x) (by simp [HN.out]; omega) (by rw [nth_drop]; exact hx)
      have HMT := Lib.hid hmt
      have hml : (missL l ((s.drop cn).take j)).length ≤ sn := Nat.le_trans miss_len (by simp; omega)
      have HML := Lib.hid hml
      obtain ⟨z, hz⟩ : ∃ z, hatS l x = z := ⟨_, rfl⟩
      have HZ := Lib.hid hz
      have hzn := hat_has HH.out x
      rw [hz] at hzn
      have HZN := Lib.hid hzn
      have hjj : ((cn + j : Nat) : Int) < (sn : Int) := by omega
      clear hx hmt hml hz hzn
      by_cases hz0 : z < 0
      · have hz0d : decide (z < 0) = true := by simpa using hz0
        have HK : Hid (khasH l x = false) := Lib.hid (HZN.out.1 hz0)
        clear hz0
        go_wp2_with (first
          | (go_at_call 34; refine (ref22_at lA ln lc l x z _ (HL.out.up (by (repeat (first | (with_reducible exact Below.refl _ _) | (with_reducible assumption) | (with_reducible apply bel_alloc) | (with_reducible apply bel_drew) | (with_reducible apply bel_drewN) | (with_reducible refine bel_trans ?_ (by with_reducible assumption)) | (with_reducible refine bel_trans ?_ (HF.out _)) | (with_reducible refine bel_set ?_ (by simp) _) | (with_reducible refine bel_set ?_ (by simp; omega) _) | (with_reducible refine bel_set ?_ (by omega) _))))) HZ.out).mono ?_; rintro e w2 ⟨rfl, hb2⟩; have hB2 := HB.out.up hb2; have d_0 := (hB2).2 0 _ rfl; have d_1 := (hB2).2 1 _ rfl; have d_2 := (hB2).2 2 _ rfl; have d_3 := (hB2).2 3 _ rfl; have hg2 := hB2.1; have HB2 := Lib.hid hB2; clear hB2; have hck2 := (hb2.cell (p := ⟨b, off + (cn + j), none⟩) hb).trans hck; have hbl2 : b < w2.heap.size := Nat.lt_of_lt_of_le hb hb2.size)
          | (at_builtin; refine wpList_app1 rfl (.tmp 24) (.tmp 30) rfl (w.heap.size + 1) _ _ rfl ((HO.out.up hb2).alloc _) _ x rfl (cell0_alloc _ _ _) (by have := HML.out; omega) (by simp; omega) ?_; intro v1 w1 hown1 hg1 hbel1 hat1))
        have hB1 := (HB2.out.up (by (repeat (first | (with_reducible exact Below.refl _ _) | (with_reducible assumption) | (with_reducible apply bel_alloc) | (with_reducible apply bel_drew) | (with_reducible apply bel_drewN) | (with_reducible refine bel_trans ?_ (by with_reducible assumption)) | (with_reducible refine bel_trans ?_ (HF.out _)) | (with_reducible refine bel_set ?_ (by simp) _) | (with_reducible refine bel_set ?_ (by simp; omega) _) | (with_reducible refine bel_set ?_ (by omega) _))))).below hbel1 (by omega)
        have hb1 : Below w.heap.size w w1 := (bel_trans hbw (bel_trans hb2 (by (repeat (first | (with_reducible exact Below.refl _ _) | (with_reducible assumption) | (with_reducible apply bel_alloc) | (with_reducible apply bel_drew) | (with_reducible apply bel_drewN) | (with_reducible refine bel_trans ?_ (by with_reducible assumption)) | (with_reducible refine bel_trans ?_ (HF.out _)) | (with_reducible refine bel_set ?_ (by simp) _) | (with_reducible refine bel_set ?_ (by simp; omega) _) | (with_reducible refine bel_set ?_ (by omega) _)))))).trans (hbel1.mono (by omega))
        have hown2 : OwnI w1 (w.heap.size + 1) v1 (missL l ((s.drop cn).take (j + 1))) := by rw [HMT.out, if_neg (by rw [HK.out]; simp)]; exact hown1
        (first | (go_round; (case rel => exact ⟨j + 1, by omega, by go_num, Lib.hid hown2, Lib.hid hB1, hb1⟩); (case measure => (simp [intOf] <;> omega))) | (go_roundw; (case rel => exact ⟨j + 1, by omega, by go_num, Lib.hid hown2, Lib.hid hB1, hb1⟩); (case measure => (simp [intOf] <;> omega))) | (refine ⟨?_, by simp [intOf] <;> omega⟩; (repeat apply Exists.intro); refine ⟨?rel, ?fr⟩; (case fr => ((repeat' apply And.intro) <;> rfl)); (case rel => exact ⟨j + 1, by omega, by go_num, Lib.hid hown2, Lib.hid hB1, hb1⟩)))
      · have hz0d : decide (z < 0) = false := by simpa using hz0
        have HK : Hid (khasH l x = true) := Lib.hid (by
          cases e : khasH l x
          · exact absurd (HZN.out.2 e) hz0
          · rfl)
        clear hz0
        go_wp2_with (go_at_call 34; refine (ref22_at lA ln lc l x z _ (HL.out.up (by (repeat (first | (with_reducible exact Below.refl _ _) | (with_reducible assumption) | (with_reducible apply bel_alloc) | (with_reducible apply bel_drew) | (with_reducible apply bel_drewN) | (with_reducible refine bel_trans ?_ (by with_reducible assumption)) | (with_reducible refine bel_trans ?_ (HF.out _)) | (with_reducible refine bel_set ?_ (by simp) _) | (with_reducible refine bel_set ?_ (by simp; omega) _) | (with_reducible refine bel_set ?_ (by omega) _))))) HZ.out).mono ?_; rintro e w2 ⟨rfl, hb2⟩)
        have hown2 : OwnI w2 (w.heap.size + 1) u5 (missL l ((s.drop cn).take (j + 1))) := by rw [HMT.out, if_pos HK.out, List.append_nil]; exact HO.out.up hb2
        (first | (go_round; (case rel => exact ⟨j + 1, by omega, by go_num, Lib.hid hown2, Lib.hid (HB.out.up hb2), bel_trans hbw hb2⟩); (case measure => (simp [intOf] <;> omega))) | (go_roundw; (case rel => exact ⟨j + 1, by omega, by go_num, Lib.hid hown2, Lib.hid (HB.out.up hb2), bel_trans hbw hb2⟩); (case measure => (simp [intOf] <;> omega))) | (refine ⟨?_, by simp [intOf] <;> omega⟩; (repeat apply Exists.intro); refine ⟨?rel, ?fr⟩; (case fr => ((repeat' apply And.intro) <;> rfl)); (case rel => exact ⟨j + 1, by omega, by go_num, Lib.hid hown2, Lib.hid (HB.out.up hb2), bel_trans hbw hb2⟩)))
    · have e : (s.drop cn).take j = s.drop cn := List.take_of_length_le (by simp [HN.out]; omega)
      have hO := HO.out
      rw [e] at hO
      go_wp2_with fail
      go_ret
      exact ⟨_, rfl, OwnI.mono hO (by omega), hbw⟩
set_option maxRecDepth 100000 in
set_option maxHeartbeats 4000000 in
theorem exec_Missing (pA qA sA lA : Option Addr) (pn pc qn qc sn sc ln lc cn : Nat) (s : List Int) (l : List HeldD) (w : World) (hl : HeldsR w lA ln l) (hs : IntsR w sA sn s) (hH : MayHs l) (hcn : cn ≤ sn) (hsn : sn ≤ 1000000) (hsc : sn ≤ sc) (hln : ln ≤ 1000000) :
    Calls Tryz.prog 41 #[.agg #[.slice pA pn pc, .slice qA qn qc, .slice sA sn sc, .int .i64 cn], .slice lA ln lc] w fun e w' => ∃ v, e = .returned v ∧ OwnI w' w.heap.size v (missL l (s.drop cn)) ∧ Below w.heap.size w w' := by
  have HL := Lib.hid hl
  have HS := Lib.hid hs
  have HN := Lib.hid hs.1
  have HH := Lib.hid hH
  clear hl hs hH
  have hcc : cn ≤ sc := by omega
  go_enter Tryz.func41, Tryz.ntmps41
  rcases Nat.lt_or_ge cn sn with hc | hc
  · obtain ⟨sb, soff, rfl, -, -⟩ := HS.out.2.2 (by omega)
    have hne : ¬ (sc = cn) := by omega
    have hne2 : ¬ (cn = sc) := by omega
    obtain ⟨m, hm⟩ : ∃ m, sn - cn = m := ⟨_, rfl⟩
    go_wp2_with fail
    go_loopw [4, 15] (fun v i wr => ∃ j : Nat, j ≤ m ∧ i = .int .i64 j ∧ Hid (OwnI wr (w.heap.size + 1) v (missL l ((s.drop cn).take j))) ∧ Below w.heap.size w wr) (fun _ i _ => m - (intOf i).toNat)
    case atStart => exact ⟨0, by omega, rfl, Lib.hid (OwnI.nil _ _), by (repeat (first | (with_reducible exact Below.refl _ _) | (with_reducible assumption) | (with_reducible apply bel_alloc) | (with_reducible apply bel_drew) | (with_reducible apply bel_drewN) | (with_reducible refine bel_trans ?_ (by with_reducible assumption)) | (with_reducible refine bel_trans ?_ (HF.out _)) | (with_reducible refine bel_set ?_ (by simp) _) | (with_reducible refine bel_set ?_ (by simp; omega) _) | (with_reducible refine bel_set ?_ (by omega) _)))⟩
    case round =>
      obtain ⟨j, hj, rfl, HO, hbw⟩ := hrel
      (obtain ⟨wk, hwk⟩ : ∃ x, x = wr := ⟨_, rfl⟩); subst hwk
      by_cases hlt : j < m
      · obtain ⟨b, off, e, hb, hc⟩ := (HS.out.up hbw).2.2 (by omega)
        injection e with e; injection e with e1 e2; subst e1; subst e2
        have hck := hc (cn + j) (by omega)
        rw [← Nat.add_assoc] at hck
        clear hc
        obtain ⟨x, hx⟩ : ∃ x, nth s (cn + j) = x := ⟨_, rfl⟩
        rw [hx] at hck
        have hmt := miss_take (l := l) (ds := s.drop cn) (k := j) (x := x) (by simp [HN.out]; omega) (by rw [nth_drop]; exact hx)
        have HMT := Lib.hid hmt
        have hml : (missL l ((s.drop cn).take j)).length ≤ sn := Nat.le_trans miss_len (by simp; omega)
        have HML := Lib.hid hml
        obtain ⟨lo, hlo⟩ : ∃ lo, kposH l x = lo := ⟨_, rfl⟩
        have HLO := Lib.hid hlo
        clear hx hmt hml hlo
        cases hk : khasH l x
        · have HK := Lib.hid hk
          clear hk
          go_wp2_with (first
            | (go_at_call 61; refine (worker_At lA ln lc l x lo false _ (HL.out.up (by (repeat (first | (with_reducible exact Below.refl _ _) | (with_reducible assumption) | (with_reducible apply bel_alloc) | (with_reducible apply bel_drew) | (with_reducible apply bel_drewN) | (with_reducible refine bel_trans ?_ (by with_reducible assumption)) | (with_reducible refine bel_trans ?_ (HF.out _)) | (with_reducible refine bel_set ?_ (by simp) _) | (with_reducible refine bel_set ?_ (by simp; omega) _) | (with_reducible refine bel_set ?_ (by omega) _))))) HH.out.sorted (by omega) HLO.out HK.out).mono ?_; rintro e w2 ⟨rfl, hb2⟩; have hz2 := hb2.size; have hzk := hbw.size)
            | (at_builtin; refine wpList_app1 rfl (.tmp 27) (.tmp 29) rfl (w.heap.size + 1) _ _ rfl ((HO.out.up hb2).alloc _) _ x rfl (cell0_alloc _ _ _) (by have := HML.out; omega) (by simp; omega) ?_; intro v1 w1 hown1 hg1 hbel1 hat1))
          have hb1 : Below w.heap.size w w1 := (bel_trans hbw (bel_trans hb2 (by (repeat (first | (with_reducible exact Below.refl _ _) | (with_reducible assumption) | (with_reducible apply bel_alloc) | (with_reducible apply bel_drew) | (with_reducible apply bel_drewN) | (with_reducible refine bel_trans ?_ (by with_reducible assumption)) | (with_reducible refine bel_trans ?_ (HF.out _)) | (with_reducible refine bel_set ?_ (by simp) _) | (with_reducible refine bel_set ?_ (by simp; omega) _) | (with_reducible refine bel_set ?_ (by omega) _)))))).trans (hbel1.mono (by omega))
          have hown2 : OwnI w1 (w.heap.size + 1) v1 (missL l ((s.drop cn).take (j + 1))) := by rw [HMT.out, if_neg (by rw [HK.out]; simp)]; exact hown1
          (first | (go_round; (case rel => exact ⟨j + 1, by omega, by go_num, Lib.hid hown2, hb1⟩); (case measure => (simp [intOf] <;> omega))) | (go_roundw; (case rel => exact ⟨j + 1, by omega, by go_num, Lib.hid hown2, hb1⟩); (case measure => (simp [intOf] <;> omega))) | (refine ⟨?_, by simp [intOf] <;> omega⟩; (repeat apply Exists.intro); refine ⟨?rel, ?fr⟩; (case fr => ((repeat' apply And.intro) <;> rfl)); (case rel => exact ⟨j + 1, by omega, by go_num, Lib.hid hown2, hb1⟩)))
        · have HK := Lib.hid hk
          clear hk
          go_wp2_with (go_at_call 61; refine (worker_At lA ln lc l x lo true _ (HL.out.up (by (repeat (first | (with_reducible exact Below.refl _ _) | (with_reducible assumption) | (with_reducible apply bel_alloc) | (with_reducible apply bel_drew) | (with_reducible apply bel_drewN) | (with_reducible refine bel_trans ?_ (by with_reducible assumption)) | (with_reducible refine bel_trans ?_ (HF.out _)) | (with_reducible refine bel_set ?_ (by simp) _) | (with_reducible refine bel_set ?_ (by simp; omega) _) | (with_reducible refine bel_set ?_ (by omega) _))))) HH.out.sorted (by omega) HLO.out HK.out).mono ?_; rintro e w2 ⟨rfl, hb2⟩)
          have hown2 : OwnI w2 (w.heap.size + 1) u4 (missL l ((s.drop cn).take (j + 1))) := by rw [HMT.out, if_pos HK.out, List.append_nil]; exact HO.out.up hb2
          (first | (go_round; (case rel => exact ⟨j + 1, by omega, by go_num, Lib.hid hown2, bel_trans hbw hb2⟩); (case measure => (simp [intOf] <;> omega))) | (go_roundw; (case rel => exact ⟨j + 1, by omega, by go_num, Lib.hid hown2, bel_trans hbw hb2⟩); (case measure => (simp [intOf] <;> omega))) | (refine ⟨?_, by simp [intOf] <;> omega⟩; (repeat apply Exists.intro); refine ⟨?rel, ?fr⟩; (case fr => ((repeat' apply And.intro) <;> rfl)); (case rel => exact ⟨j + 1, by omega, by go_num, Lib.hid hown2, bel_trans hbw hb2⟩)))
      · have e : (s.drop cn).take j = s.drop cn := List.take_of_length_le (by simp [HN.out]; omega)
        have hO := HO.out
        rw [e] at hO
        go_wp2_with fail
        go_ret
        exact ⟨_, rfl, OwnI.mono hO (by omega), hbw⟩
  · obtain rfl : cn = sn := by omega
    have e : missL l (s.drop cn) = [] := by rw [List.drop_of_length_le (by rw [HN.out]; omega)]; rfl
    rw [e]
    clear hc hcn
    by_cases hce : cn = sc
    case' pos => subst hce
    case' neg => have hne2 : ¬ (sc = cn) := fun h => hce h.symm
    all_goals
      cases sA
      all_goals
        go_wp2_with fail
        go_loop [4, 15] (fun v i => v = .slice none 0 0 ∧ i = .int .i64 0) (fun _ _ => 0)
        case atStart => exact ⟨rfl, rfl⟩
        case round =>
          obtain ⟨rfl, rfl⟩ := hrel
          go_wp2_with fail
          go_ret
          exact ⟨_, rfl, OwnI.nil _ _, by (repeat (first | (with_reducible exact Below.refl _ _) | (with_reducible assumption) | (with_reducible apply bel_alloc) | (with_reducible apply bel_drew) | (with_reducible apply bel_drewN) | (with_reducible refine bel_trans ?_ (by with_reducible assumption)) | (with_reducible refine bel_trans ?_ (HF.out _)) | (with_reducible refine bel_set ?_ (by simp) _) | (with_reducible refine bel_set ?_ (by simp; omega) _) | (with_reducible refine bel_set ?_ (by omega) _)))⟩
set_option maxRecDepth 100000 in
set_option maxHeartbeats 4000000 in
theorem exec_Lacks_bad (pA qA sA lA : Option Addr) (pn pc qn qc sn sc ln lc : Nat) (cn : Int) (p : List PairD) (q : List AcctD) (s : List Int) (l : List HeldD) (w : World) (hp : PairsR w pA pn p) (hq : AcctsR w qA qn q) (hs : IntsR w sA sn s) (hl : HeldsR w lA ln l) (hno : ¬ (exB p q s cn = true ∧ hdB l = true)) (h3 : sn ≤ 1000000) (h4 : ln ≤ 1000000) (h5 : sn ≤ sc) :
    Calls Tryz.prog 16 #[.agg #[.slice pA pn pc, .slice qA qn qc, .slice sA sn sc, .int .i64 cn], .slice lA ln lc] w fun e w' => e = .returned (.tuple #[.slice none 0 0, .int .i64 1]) ∧ Below w.heap.size w w' := by
  have HP := Lib.hid hp
  have HQ := Lib.hid hq
  have HS := Lib.hid hs
  have HL := Lib.hid hl
  obtain ⟨y1, hy1⟩ : ∃ y, exB p q s cn = y := ⟨_, rfl⟩
  obtain ⟨y2, hy2⟩ : ∃ y, hdB l = y := ⟨_, rfl⟩
  rw [hy1, hy2] at hno
  have HY1 := Lib.hid hy1
  have HY2 := Lib.hid hy2
  clear hp hq hs hl hy1 hy2
  cases y1
  case' true =>
    cases y2
    case' true => exact absurd ⟨rfl, rfl⟩ hno
  all_goals
    clear hno
    go_enter Tryz.func16, Tryz.ntmps16
    go_wp2_with (first | (go_at_call 31; refine (exec_May pA qA sA pn pc qn qc sn sc p q s cn _ _ (HP.out.up (by (repeat (first | (with_reducible exact Below.refl _ _) | (with_reducible assumption) | (with_reducible apply bel_alloc) | (with_reducible apply bel_drew) | (with_reducible apply bel_drewN) | (with_reducible refine bel_trans ?_ (by with_reducible assumption)) | (with_reducible refine bel_trans ?_ (HF.out _)) | (with_reducible refine bel_set ?_ (by simp) _) | (with_reducible refine bel_set ?_ (by simp; omega) _) | (with_reducible refine bel_set ?_ (by omega) _))))) (HQ.out.up (by (repeat (first | (with_reducible exact Below.refl _ _) | (with_reducible assumption) | (with_reducible apply bel_alloc) | (with_reducible apply bel_drew) | (with_reducible apply bel_drewN) | (with_reducible refine bel_trans ?_ (by with_reducible assumption)) | (with_reducible refine bel_trans ?_ (HF.out _)) | (with_reducible refine bel_set ?_ (by simp) _) | (with_reducible refine bel_set ?_ (by simp; omega) _) | (with_reducible refine bel_set ?_ (by omega) _))))) (HS.out.up (by (repeat (first | (with_reducible exact Below.refl _ _) | (with_reducible assumption) | (with_reducible apply bel_alloc) | (with_reducible apply bel_drew) | (with_reducible apply bel_drewN) | (with_reducible refine bel_trans ?_ (by with_reducible assumption)) | (with_reducible refine bel_trans ?_ (HF.out _)) | (with_reducible refine bel_set ?_ (by simp) _) | (with_reducible refine bel_set ?_ (by simp; omega) _) | (with_reducible refine bel_set ?_ (by omega) _))))) HY1.out).mono ?_; rintro e w1 ⟨rfl, hb1⟩; have hE1 := (BoxR.new w [.slice pA pn pc, .slice qA qn qc, .slice sA sn sc, .int .i64 cn] 28).up hb1; have hbw1 : Below w.heap.size w w1 := (by (repeat (first | (with_reducible exact Below.refl _ _) | (with_reducible assumption) | (with_reducible apply bel_alloc) | (with_reducible apply bel_drew) | (with_reducible apply bel_drewN) | (with_reducible refine bel_trans ?_ (by with_reducible assumption)) | (with_reducible refine bel_trans ?_ (HF.out _)) | (with_reducible refine bel_set ?_ (by simp) _) | (with_reducible refine bel_set ?_ (by simp; omega) _) | (with_reducible refine bel_set ?_ (by omega) _)))); have HE1 := Lib.hid hE1; have hel := hE1.1; have g_0 := (hE1).2 0 _ rfl; have g_1 := (hE1).2 1 _ rfl; have g_2 := (hE1).2 2 _ rfl; have g_3 := (hE1).2 3 _ rfl; clear hE1) | (go_at_call 37; refine (worker_MayHeld lA ln lc l _ _ (HL.out.up hbw1) HY2.out).mono ?_; rintro e w2 ⟨rfl, hb2⟩; have hbw2 : Below w.heap.size w w2 := bel_trans hbw1 hb2; have hE2 := HE1.out.up hb2; clear g_0 g_1 g_2 g_3 hel; have hel := hE2.1; have g_0 := (hE2).2 0 _ rfl; have g_1 := (hE2).2 1 _ rfl; have g_2 := (hE2).2 2 _ rfl; have g_3 := (hE2).2 3 _ rfl; clear hE2))
    go_ret2
    exact ⟨rfl, by (repeat (first | (with_reducible exact Below.refl _ _) | (with_reducible assumption) | (with_reducible apply bel_alloc) | (with_reducible apply bel_drew) | (with_reducible apply bel_drewN) | (with_reducible refine bel_trans ?_ (by with_reducible assumption)) | (with_reducible refine bel_trans ?_ (HF.out _)) | ((with_reducible refine bel_set3 ?_ ?_); rotate_left; omega)))⟩
set_option maxRecDepth 100000 in
set_option maxHeartbeats 4000000 in
theorem exec_Lacks_ok (pA qA sA lA : Option Addr) (pn pc qn qc sn sc ln lc : Nat) (cn : Nat) (p : List PairD) (q : List AcctD) (s : List Int) (l : List HeldD) (w : World) (hp : PairsR w pA pn p) (hq : AcctsR w qA qn q) (hs : IntsR w sA sn s) (hl : HeldsR w lA ln l) (h1 : exB p q s cn = true) (h2 : hdB l = true) (h3 : sn ≤ 1000000) (h4 : ln ≤ 1000000) (h5 : sn ≤ sc) :
    Calls Tryz.prog 16 #[.agg #[.slice pA pn pc, .slice qA qn qc, .slice sA sn sc, .int .i64 cn], .slice lA ln lc] w fun e w' => ∃ v, e = .returned (.tuple #[v, .int .i64 0]) ∧ OwnI w' w.heap.size v (missL l (s.drop cn)) ∧ Below w.heap.size w w' := by
  have HP := Lib.hid hp
  have HQ := Lib.hid hq
  have HS := Lib.hid hs
  have HL := Lib.hid hl
  have HY1 := Lib.hid h1
  have HY2 := Lib.hid h2
  have hcn : cn ≤ sn := by have := (exB_iff.1 h1).2.2.2; rw [hs.1] at this; omega
  clear hp hq hs hl h1 h2
  go_enter Tryz.func16, Tryz.ntmps16
  go_wp2_with (first | (go_at_call 31; refine (exec_May pA qA sA pn pc qn qc sn sc p q s cn _ _ (HP.out.up (by (repeat (first | (with_reducible exact Below.refl _ _) | (with_reducible assumption) | (with_reducible apply bel_alloc) | (with_reducible apply bel_drew) | (with_reducible apply bel_drewN) | (with_reducible refine bel_trans ?_ (by with_reducible assumption)) | (with_reducible refine bel_trans ?_ (HF.out _)) | (with_reducible refine bel_set ?_ (by simp) _) | (with_reducible refine bel_set ?_ (by simp; omega) _) | (with_reducible refine bel_set ?_ (by omega) _))))) (HQ.out.up (by (repeat (first | (with_reducible exact Below.refl _ _) | (with_reducible assumption) | (with_reducible apply bel_alloc) | (with_reducible apply bel_drew) | (with_reducible apply bel_drewN) | (with_reducible refine bel_trans ?_ (by with_reducible assumption)) | (with_reducible refine bel_trans ?_ (HF.out _)) | (with_reducible refine bel_set ?_ (by simp) _) | (with_reducible refine bel_set ?_ (by simp; omega) _) | (with_reducible refine bel_set ?_ (by omega) _))))) (HS.out.up (by (repeat (first | (with_reducible exact Below.refl _ _) | (with_reducible assumption) | (with_reducible apply bel_alloc) | (with_reducible apply bel_drew) | (with_reducible apply bel_drewN) | (with_reducible refine bel_trans ?_ (by with_reducible assumption)) | (with_reducible refine bel_trans ?_ (HF.out _)) | (with_reducible refine bel_set ?_ (by simp) _) | (with_reducible refine bel_set ?_ (by simp; omega) _) | (with_reducible refine bel_set ?_ (by omega) _))))) HY1.out).mono ?_; rintro e w1 ⟨rfl, hb1⟩; have hE1 := (BoxR.new w [.slice pA pn pc, .slice qA qn qc, .slice sA sn sc, .int .i64 cn] 28).up hb1; have hbw1 : Below w.heap.size w w1 := (by (repeat (first | (with_reducible exact Below.refl _ _) | (with_reducible assumption) | (with_reducible apply bel_alloc) | (with_reducible apply bel_drew) | (with_reducible apply bel_drewN) | (with_reducible refine bel_trans ?_ (by with_reducible assumption)) | (with_reducible refine bel_trans ?_ (HF.out _)) | (with_reducible refine bel_set ?_ (by simp) _) | (with_reducible refine bel_set ?_ (by simp; omega) _) | (with_reducible refine bel_set ?_ (by omega) _)))); have HE1 := Lib.hid hE1; have hel := hE1.1; have g_0 := (hE1).2 0 _ rfl; have g_1 := (hE1).2 1 _ rfl; have g_2 := (hE1).2 2 _ rfl; have g_3 := (hE1).2 3 _ rfl; clear hE1) | (go_at_call 37; refine (worker_MayHeld lA ln lc l _ _ (HL.out.up hbw1) HY2.out).mono ?_; rintro e w2 ⟨rfl, hb2⟩; have hbw2 : Below w.heap.size w w2 := bel_trans hbw1 hb2; have hE2 := HE1.out.up hb2; clear g_0 g_1 g_2 g_3 hel; have hel := hE2.1; have g_0 := (hE2).2 0 _ rfl; have g_1 := (hE2).2 1 _ rfl; have g_2 := (hE2).2 2 _ rfl; have g_3 := (hE2).2 3 _ rfl; clear hE2) | (go_at_call 41; refine (exec_Missing pA qA sA lA pn pc qn qc sn sc ln lc cn s l _ (HL.out.up hbw2) (HS.out.up hbw2) (hdB_iff.1 HY2.out) hcn h3 h5 h4).mono ?_; rintro e w3 ⟨v, rfl, hown, hb3⟩))
  go_ret2
  exact ⟨_, rfl, OwnI.mono hown hbw2.size, by (repeat (first | (with_reducible exact Below.refl _ _) | (with_reducible assumption) | (with_reducible apply bel_alloc) | (with_reducible apply bel_drew) | (with_reducible apply bel_drewN) | (with_reducible refine bel_trans ?_ (by with_reducible assumption)) | (with_reducible refine bel_trans ?_ (HF.out _)) | ((with_reducible refine bel_set3 ?_ ?_); rotate_left; omega)))⟩
end Go.Proofs.YtbakkpabiknlmaaGreat
