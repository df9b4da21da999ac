/- Exec: what is lacked, at the program, at the reference; the law ExecLacks. -/
import Derived.Test.YtgljmljmljccgaaEm
import Derived.Deep.RegionHeld3
namespace Go.Proofs.Ytgljmljmljccgaa
open Go.RowKit
set_option linter.unusedSimpArgs false
set_option linter.unusedVariables false

/-- Where a digest is held, one by one; -1: nowhere. -/
def hatF (d : Int) : Int → List HeldD → Int
  | _, [] => -1
  | i, c :: l => if c.di = d then i else hatF d (i + 1) l
def hatS (l : List HeldD) (d : Int) : Int := hatF d 0 l
theorem drop_hth (l : List HeldD) (k : Nat) (h : k < l.length) : l.drop k = hth l k :: l.drop (k + 1) := by
  rw [List.drop_eq_getElem_cons h]; simp [hth, h]
theorem hatF_step (d : Int) (l : List HeldD) (k : Nat) (h : k < l.length) : hatF d k (l.drop k) = if (hth l k).di = d then (k : Int) else hatF d ((k + 1 : Nat) : Int) (l.drop (k + 1)) := by
  rw [drop_hth l k h, hatF]; simp
theorem hatF_neg (d : Int) : ∀ (l : List HeldD) (i : Int), 0 ≤ i → (hatF d i l < 0 ↔ ∀ x ∈ l, x.di ≠ d)
  | [], i, h => by simp [hatF]
  | c :: l, i, h => by
    unfold hatF
    by_cases e : c.di = d
    · rw [if_pos e]; simp [e]; omega
    · rw [if_neg e, hatF_neg d l (i + 1) (by omega)]; simp [e]
theorem hatF_some (d : Int) : ∀ (l : List HeldD) (i : Nat), 0 ≤ hatF d i l → ∃ j, j < l.length ∧ hatF d i l = ((i + j : Nat) : Int) ∧ (hth l j).di = d
  | [], i, h => by simp [hatF] at h
  | c :: l, i, h => by
    unfold hatF at h ⊢
    by_cases e : c.di = d
    · rw [if_pos e]; exact ⟨0, by simp, by simp, e⟩
    · rw [if_neg e] at h ⊢
      have h' : 0 ≤ hatF d ((i + 1 : Nat) : Int) l := by simpa using h
      obtain ⟨j, hj, h1, h2⟩ := hatF_some d l (i + 1) h'
      refine ⟨j + 1, by simp; omega, ?_, by simpa [hth] using h2⟩
      have h1' : hatF d ((i : Int) + 1) l = ((i + 1 + j : Nat) : Int) := by simpa using h1
      rw [h1']; congr 1; omega
theorem hat_has {l : List HeldD} (hH : MayHs l) (d : Int) : hatS l d < 0 ↔ khasH l d = false := by
  unfold hatS
  rw [hatF_neg d l 0 (by omega)]
  constructor
  · intro h
    cases e : khasH l d
    · rfl
    · obtain ⟨j, hj, ej⟩ := (khasH_iff hH.sorted).1 e
      exact absurd ej (h _ (by unfold hth; simp [hj]))
  · intro h x hx ex
    obtain ⟨j, hj, e⟩ := List.getElem_of_mem hx
    have : khasH l d = true := (khasH_iff hH.sorted).2 ⟨j, hj, by simp [hth, hj, e, ex]⟩
    rw [h] at this; cases this
theorem hat_pos {l : List HeldD} (hH : MayHs l) {d : Int} (h : khasH l d = true) : hatS l d = (kposH l d : Int) := by
  have h0 : 0 ≤ hatS l d := by
    have := hat_has hH d
    rcases Int.lt_or_le (hatS l d) 0 with h1 | h1
    · rw [this.1 h1] at h; cases h
    · exact h1
  obtain ⟨j, hj, h1, h2⟩ := hatF_some d l 0 h0
  obtain ⟨k1, k2⟩ := khasH_lt rfl h
  have h1' : hatF d 0 l = ((0 + j : Nat) : Int) := by simpa using h1
  unfold hatS
  rw [h1']
  have hs := hH.sorted
  have : j = kposH l d := by
    rcases Nat.lt_trichotomy j (kposH l d) with g | g | g
    · have := hs _ _ g k1; rw [h2, k2] at this; simp [ltI] at this
    · exact g
    · have := hs _ _ g hj; rw [h2, k2] at this; simp [ltI] at this
  simp [this]
set_option maxRecDepth 100000 in
set_option maxHeartbeats 2000000 in
theorem ref22_at (A : Option Addr) (n c : Nat) (l : List HeldD) (d z : Int) (w : World) (hl : HeldsR w A n l) (hz : hatS l d = z) :
    Calls Try.prog 84 #[.slice A n c, .int .i64 d] w fun e w' => e = .returned (.int .i64 z) ∧ Below w.heap.size w w' := by
  have HL := Lib.hid hl
  have HN := Lib.hid hl.1
  have HZ := Lib.hid hz
  have hnn : n ≤ 9223372036854775807 := hl.2.1
  clear hl hz
  go_enter Try.func84, Try.ntmps84
  go_wp2_with fail
  go_loopw [5] (fun i wr => ∃ k : Nat, k ≤ n ∧ i = .int .i64 k ∧ Hid (hatF d k (l.drop k) = z) ∧ Below w.heap.size w wr) (fun i _ => n - (intOf i).toNat)
  case atStart => exact ⟨0, Nat.zero_le _, rfl, Lib.hid (by have := HZ.out; unfold hatS at this; simpa using this), Below.refl _ _⟩
  case round =>
    obtain ⟨k, hk, rfl, hr, hbw⟩ := hrel
    (obtain ⟨wk, hwk⟩ : ∃ x, x = wr := ⟨_, rfl⟩); subst hwk
    by_cases hlt : k < n
    · obtain ⟨b, off, rfl, hb, hc⟩ := (HL.out.up hbw).2.2 (by omega)
      obtain ⟨B, m, dd, ⟨c0, c1, c2, c3⟩, -⟩ := hc k hlt
      have hst := hatF_step d l k (by rw [HN.out]; exact hlt)
      rw [hr.out] at hst
      obtain ⟨y, hy⟩ : ∃ y, (hth l k).di = y := ⟨_, rfl⟩
      rw [hy] at hst c0
      have HST := Lib.hid hst
      clear hc c1 c2 c3 hst hy
      by_cases hyd : y = d
      · have hyb : (y == d) = true := by simpa using hyd
        have hz2 : z = (k : Int) := by rw [HST.out, if_pos hyd]
        clear hyd
        subst hz2
        go_wp2_with fail
        go_ret
        exact ⟨rfl, hbw⟩
      · have hyb : (y == d) = false := by simpa using hyd
        have HZ2 : Hid (hatF d ((k + 1 : Nat) : Int) (l.drop (k + 1)) = z) := Lib.hid (by rw [HST.out, if_neg hyd])
        clear hyd
        go_wp2_with fail
        (first | (go_round; (case rel => exact ⟨k + 1, by omega, by go_num, HZ2, hbw⟩); (case measure => (simp [intOf] <;> omega))) | (go_roundw; (case rel => exact ⟨k + 1, by omega, by go_num, HZ2, hbw⟩); (case measure => (simp [intOf] <;> omega))) | (refine ⟨?_, by simp [intOf] <;> omega⟩; (repeat apply Exists.intro); refine ⟨?rel, ?fr⟩; (case fr => ((repeat' apply And.intro) <;> rfl)); (case rel => exact ⟨k + 1, by omega, by go_num, HZ2, hbw⟩)))
    · have hz2 : z = -1 := by
        rw [← hr.out, List.drop_of_length_le (by rw [HN.out]; omega)]; rfl
      subst hz2
      go_wp2_with fail
      go_ret
      exact ⟨rfl, hbw⟩
/-- Those that are not held. -/
noncomputable def missL (l : List HeldD) (ds : List Int) : List Int := ds.filter (fun d => !khasH l d)
theorem miss_take {l : List HeldD} {ds : List Int} {k : Nat} {x : Int} (h : k < ds.length) (hx : nth ds k = x) : missL l (ds.take (k + 1)) = missL l (ds.take k) ++ (if khasH l x = true then [] else [x]) := by
  unfold missL
  rw [take_nth ds k h, hx, List.filter_append]
  cases e : khasH l x <;> simp [e]
theorem miss_len {l : List HeldD} {ds : List Int} : (missL l ds).length ≤ ds.length := List.length_filter_le _ _
theorem nth_drop {s : List Int} {c j : Nat} : nth (s.drop c) j = nth s (c + j) := by simp [nth]
set_option maxRecDepth 100000 in
set_option maxHeartbeats 4000000 in
theorem ref22_Lacks (pA qA sA lA : Option Addr) (pn pc qn qc sn sc ln lc cn : Nat) (s : List Int) (l : List HeldD) (w : World) (hl : HeldsR w lA ln l) (hs : IntsR w sA sn s) (hH : MayHs l) (hcn : cn ≤ sn) (hsn : sn ≤ 1000000) :
    Calls Try.prog 45 #[.agg #[.slice pA pn pc, .slice qA qn qc, .slice sA sn sc, .int .i64 cn], .slice lA ln lc] w fun e w' => ∃ v, e = .returned v ∧ OwnI w' w.heap.size v (missL l (s.drop cn)) ∧ Below w.heap.size w w' := by
  have HL := Lib.hid hl
  have HS := Lib.hid hs
  have HN := Lib.hid hs.1
  have HH := Lib.hid hH
  clear hl hs hH
  go_enter Try.func45, Try.ntmps45
  go_wp2_with fail
  go_loopw [5, 6] (fun v i wr => ∃ j : Nat, cn + j ≤ sn ∧ i = .int .i64 ((cn + j : Nat) : Int) ∧ Hid (OwnI wr (w.heap.size + 1) v (missL l ((s.drop cn).take j))) ∧ Hid (BoxR wr w.heap.size [.slice pA pn pc, .slice qA qn qc, .slice sA sn sc, .int .i64 cn]) ∧ Below w.heap.size w wr) (fun _ i _ => sn - (intOf i).toNat)
  case atStart => exact ⟨0, by omega, by simp, Lib.hid (OwnI.nil _ _), Lib.hid (BoxR.new w [.slice pA pn pc, .slice qA qn qc, .slice sA sn sc, .int .i64 cn] 68), by (repeat (first | (with_reducible exact Below.refl _ _) | (with_reducible assumption) | (with_reducible apply bel_alloc) | (with_reducible apply bel_drew) | (with_reducible apply bel_drewN) | (with_reducible refine bel_trans ?_ (by with_reducible assumption)) | (with_reducible refine bel_trans ?_ (HF.out _)) | (with_reducible refine bel_set ?_ (by simp) _) | (with_reducible refine bel_set ?_ (by simp; omega) _) | (with_reducible refine bel_set ?_ (by omega) _)))⟩
  case round =>
    obtain ⟨j, hj, rfl, HO, HB, hbw⟩ := hrel
    (obtain ⟨wk, hwk⟩ : ∃ x, x = wr := ⟨_, rfl⟩); subst hwk
    have b_0 := (HB.out).2 0 _ rfl; have b_1 := (HB.out).2 1 _ rfl; have b_2 := (HB.out).2 2 _ rfl; have b_3 := (HB.out).2 3 _ rfl
    have hg0 := HB.out.1
    by_cases hlt : cn + j < sn
    · obtain ⟨b, off, rfl, hb, hc⟩ := (HS.out.up hbw).2.2 (by omega)
      have hck := hc (cn + j) hlt
      clear hc
      obtain ⟨x, hx⟩ : ∃ x, nth s (cn + j) = x := ⟨_, rfl⟩
      rw [hx] at hck
      have hmt := miss_take (l := l) (ds := s.drop cn) (k := j) (x := x) (by simp [HN.out]; omega) (by rw [nth_drop]; exact hx)
      have HMT := Lib.hid hmt
      have hml : (missL l ((s.drop cn).take j)).length ≤ sn := Nat.le_trans miss_len (by simp; omega)
      have HML := Lib.hid hml
      obtain ⟨z, hz⟩ : ∃ z, hatS l x = z := ⟨_, rfl⟩
      have HZ := Lib.hid hz
      have hzn := hat_has HH.out x
      rw [hz] at hzn
      have HZN := Lib.hid hzn
      have hjj : ((cn + j : Nat) : Int) < (sn : Int) := by omega
      clear hx hmt hml hz hzn
      by_cases hz0 : z < 0
      · have hz0d : decide (z < 0) = true := by simpa using hz0
        have HK : Hid (khasH l x = false) := Lib.hid (HZN.out.1 hz0)
        clear hz0
        go_wp2_with (first
          | (go_at_call 84; refine (ref22_at lA ln lc l x z _ (HL.out.up (by (repeat (first | (with_reducible exact Below.refl _ _) | (with_reducible assumption) | (with_reducible apply bel_alloc) | (with_reducible apply bel_drew) | (with_reducible apply bel_drewN) | (with_reducible refine bel_trans ?_ (by with_reducible assumption)) | (with_reducible refine bel_trans ?_ (HF.out _)) | (with_reducible refine bel_set ?_ (by simp) _) | (with_reducible refine bel_set ?_ (by simp; omega) _) | (with_reducible refine bel_set ?_ (by omega) _))))) HZ.out).mono ?_; rintro e w2 ⟨rfl, hb2⟩; have hB2 := HB.out.up hb2; have d_0 := (hB2).2 0 _ rfl; have d_1 := (hB2).2 1 _ rfl; have d_2 := (hB2).2 2 _ rfl; have d_3 := (hB2).2 3 _ rfl; have hg2 := hB2.1; have HB2 := Lib.hid hB2; clear hB2; have hck2 := (hb2.cell (p := ⟨b, off + (cn + j), none⟩) hb).trans hck; have hbl2 : b < w2.heap.size := Nat.lt_of_lt_of_le hb hb2.size)
          | (at_builtin; refine wpList_app1 rfl (.tmp 24) (.tmp 30) rfl (w.heap.size + 1) _ _ rfl ((HO.out.up hb2).alloc _) _ x rfl (cell0_alloc _ _ _) (by have := HML.out; omega) (by simp; omega) ?_; intro v1 w1 hown1 hg1 hbel1 hat1))
        have hB1 := (HB2.out.up (by (repeat (first | (with_reducible exact Below.refl _ _) | (with_reducible assumption) | (with_reducible apply bel_alloc) | (with_reducible apply bel_drew) | (with_reducible apply bel_drewN) | (with_reducible refine bel_trans ?_ (by with_reducible assumption)) | (with_reducible refine bel_trans ?_ (HF.out _)) | (with_reducible refine bel_set ?_ (by simp) _) | (with_reducible refine bel_set ?_ (by simp; omega) _) | (with_reducible refine bel_set ?_ (by omega) _))))).below hbel1 (by omega)
        have hb1 : Below w.heap.size w w1 := (bel_trans hbw (bel_trans hb2 (by (repeat (first | (with_reducible exact Below.refl _ _) | (with_reducible assumption) | (with_reducible apply bel_alloc) | (with_reducible apply bel_drew) | (with_reducible apply bel_drewN) | (with_reducible refine bel_trans ?_ (by with_reducible assumption)) | (with_reducible refine bel_trans ?_ (HF.out _)) | (with_reducible refine bel_set ?_ (by simp) _) | (with_reducible refine bel_set ?_ (by simp; omega) _) | (with_reducible refine bel_set ?_ (by omega) _)))))).trans (hbel1.mono (by omega))
        have hown2 : OwnI w1 (w.heap.size + 1) v1 (missL l ((s.drop cn).take (j + 1))) := by rw [HMT.out, if_neg (by rw [HK.out]; simp)]; exact hown1
        (first | (go_round; (case rel => exact ⟨j + 1, by omega, by go_num, Lib.hid hown2, Lib.hid hB1, hb1⟩); (case measure => (simp [intOf] <;> omega))) | (go_roundw; (case rel => exact ⟨j + 1, by omega, by go_num, Lib.hid hown2, Lib.hid hB1, hb1⟩); (case measure => (simp [intOf] <;> omega))) | (refine ⟨?_, by simp [intOf] <;> omega⟩; (repeat apply Exists.intro); refine ⟨?rel, ?fr⟩; (case fr => ((repeat' apply And.intro) <;> rfl)); (case rel => exact ⟨j + 1, by omega, by go_num, Lib.hid hown2, Lib.hid hB1, hb1⟩)))
      · have hz0d : decide (z < 0) = false := by simpa using hz0
        have HK : Hid (khasH l x = true) := Lib.hid (by
          cases e : khasH l x
          · exact absurd (HZN.out.2 e) hz0
          · rfl)
        clear hz0
        go_wp2_with (go_at_call 84; refine (ref22_at lA ln lc l x z _ (HL.out.up (by (repeat (first | (with_reducible exact Below.refl _ _) | (with_reducible assumption) | (with_reducible apply bel_alloc) | (with_reducible apply bel_drew) | (with_reducible apply bel_drewN) | (with_reducible refine bel_trans ?_ (by with_reducible assumption)) | (with_reducible refine bel_trans ?_ (HF.out _)) | (with_reducible refine bel_set ?_ (by simp) _) | (with_reducible refine bel_set ?_ (by simp; omega) _) | (with_reducible refine bel_set ?_ (by omega) _))))) HZ.out).mono ?_; rintro e w2 ⟨rfl, hb2⟩)
        have hown2 : OwnI w2 (w.heap.size + 1) u5 (missL l ((s.drop cn).take (j + 1))) := by rw [HMT.out, if_pos HK.out, List.append_nil]; exact HO.out.up hb2
        (first | (go_round; (case rel => exact ⟨j + 1, by omega, by go_num, Lib.hid hown2, Lib.hid (HB.out.up hb2), bel_trans hbw hb2⟩); (case measure => (simp [intOf] <;> omega))) | (go_roundw; (case rel => exact ⟨j + 1, by omega, by go_num, Lib.hid hown2, Lib.hid (HB.out.up hb2), bel_trans hbw hb2⟩); (case measure => (simp [intOf] <;> omega))) | (refine ⟨?_, by simp [intOf] <;> omega⟩; (repeat apply Exists.intro); refine ⟨?rel, ?fr⟩; (case fr => ((repeat' apply And.intro) <;> rfl)); (case rel => exact ⟨j + 1, by omega, by go_num, Lib.hid hown2, Lib.hid (HB.out.up hb2), bel_trans hbw hb2⟩)))
    · have e : (s.drop cn).take j = s.drop cn := List.take_of_length_le (by simp [HN.out]; omega)
      have hO := HO.out
      rw [e] at hO
      go_wp2_with fail
      go_ret
      exact ⟨_, rfl, OwnI.mono hO (by omega), hbw⟩
set_option maxRecDepth 100000 in
set_option maxHeartbeats 4000000 in
theorem exec_Missing (pA qA sA lA : Option Addr) (pn pc qn qc sn sc ln lc cn : Nat) (s : List Int) (l : List HeldD) (w : World) (hl : HeldsR w lA ln l) (hs : IntsR w sA sn s) (hH : MayHs l) (hcn : cn ≤ sn) (hsn : sn ≤ 1000000) (hsc : sn ≤ sc) (hln : ln ≤ 1000000) :
    Calls Try.prog 85 #[.agg #[.slice pA pn pc, .slice qA qn qc, .slice sA sn sc, .int .i64 cn], .slice lA ln lc] w fun e w' => ∃ v, e = .returned v ∧ OwnI w' w.heap.size v (missL l (s.drop cn)) ∧ Below w.heap.size w w' := by
  have HL := Lib.hid hl
  have HS := Lib.hid hs
  have HN := Lib.hid hs.1
  have HH := Lib.hid hH
  clear hl hs hH
  have hcc : cn ≤ sc := by omega
  go_enter Try.func85, Try.ntmps85
  rcases Nat.lt_or_ge cn sn with hc | hc
  · obtain ⟨sb, soff, rfl, -, -⟩ := HS.out.2.2 (by omega)
    have hne : ¬ (sc = cn) := by omega
    have hne2 : ¬ (cn = sc) := by omega
    obtain ⟨m, hm⟩ : ∃ m, sn - cn = m := ⟨_, rfl⟩
    go_wp2_with fail
    go_loopw [4, 15] (fun v i wr => ∃ j : Nat, j ≤ m ∧ i = .int .i64 j ∧ Hid (OwnI wr (w.heap.size + 1) v (missL l ((s.drop cn).take j))) ∧ Below w.heap.size w wr) (fun _ i _ => m - (intOf i).toNat)
    case atStart => exact ⟨0, by omega, rfl, Lib.hid (OwnI.nil _ _), by (repeat (first | (with_reducible exact Below.refl _ _) | (with_reducible assumption) | (with_reducible apply bel_alloc) | (with_reducible apply bel_drew) | (with_reducible apply bel_drewN) | (with_reducible refine bel_trans ?_ (by with_reducible assumption)) | (with_reducible refine bel_trans ?_ (HF.out _)) | (with_reducible refine bel_set ?_ (by simp) _) | (with_reducible refine bel_set ?_ (by simp; omega) _) | (with_reducible refine bel_set ?_ (by omega) _)))⟩
    case round =>
      obtain ⟨j, hj, rfl, HO, hbw⟩ := hrel
      (obtain ⟨wk, hwk⟩ : ∃ x, x = wr := ⟨_, rfl⟩); subst hwk
      by_cases hlt : j < m
      · obtain ⟨b, off, e, hb, hc⟩ := (HS.out.up hbw).2.2 (by omega)
        injection e with e; injection e with e1 e2; subst e1; subst e2
        have hck := hc (cn + j) (by omega)
        rw [← Nat.add_assoc] at hck
        clear hc
        obtain ⟨x, hx⟩ : ∃ x, nth s (cn + j) = x := ⟨_, rfl⟩
        rw [hx] at hck
        have hmt := miss_take (l := l) (ds := s.drop cn) (k := j) (x := x) (by simp [HN.out]; omega) (by rw [nth_drop]; exact hx)
        have HMT := Lib.hid hmt
        have hml : (missL l ((s.drop cn).take j)).length ≤ sn := Nat.le_trans miss_len (by simp; omega)
        have HML := Lib.hid hml
        obtain ⟨lo, hlo⟩ : ∃ lo, kposH l x = lo := ⟨_, rfl⟩
        have HLO := Lib.hid hlo
        clear hx hmt hml hlo
        cases hk : khasH l x
        · have HK := Lib.hid hk
          clear hk
          go_wp2_with (first
            | (go_at_call 106; refine (worker_At lA ln lc l x lo false _ (HL.out.up (by (repeat (first | (with_reducible exact Below.refl _ _) | (with_reducible assumption) | (with_reducible apply bel_alloc) | (with_reducible apply bel_drew) | (with_reducible apply bel_drewN) | (with_reducible refine bel_trans ?_ (by with_reducible assumption)) | (with_reducible refine bel_trans ?_ (HF.out _)) | (with_reducible refine bel_set ?_ (by simp) _) | (with_reducible refine bel_set ?_ (by simp; omega) _) | (with_reducible refine bel_set ?_ (by omega) _))))) HH.out.sorted (by omega) HLO.out HK.out).mono ?_; rintro e w2 ⟨rfl, hb2⟩; have hz2 := hb2.size; have hzk := hbw.size)
            | (at_builtin; refine wpList_app1 rfl (.tmp 27) (.tmp 29) rfl (w.heap.size + 1) _ _ rfl ((HO.out.up hb2).alloc _) _ x rfl (cell0_alloc _ _ _) (by have := HML.out; omega) (by simp; omega) ?_; intro v1 w1 hown1 hg1 hbel1 hat1))
          have hb1 : Below w.heap.size w w1 := (bel_trans hbw (bel_trans hb2 (by (repeat (first | (with_reducible exact Below.refl _ _) | (with_reducible assumption) | (with_reducible apply bel_alloc) | (with_reducible apply bel_drew) | (with_reducible apply bel_drewN) | (with_reducible refine bel_trans ?_ (by with_reducible assumption)) | (with_reducible refine bel_trans ?_ (HF.out _)) | (with_reducible refine bel_set ?_ (by simp) _) | (with_reducible refine bel_set ?_ (by simp; omega) _) | (with_reducible refine bel_set ?_ (by omega) _)))))).trans (hbel1.mono (by omega))
          have hown2 : OwnI w1 (w.heap.size + 1) v1 (missL l ((s.drop cn).take (j + 1))) := by rw [HMT.out, if_neg (by rw [HK.out]; simp)]; exact hown1
          (first | (go_round; (case rel => exact ⟨j + 1, by omega, by go_num, Lib.hid hown2, hb1⟩); (case measure => (simp [intOf] <;> omega))) | (go_roundw; (case rel => exact ⟨j + 1, by omega, by go_num, Lib.hid hown2, hb1⟩); (case measure => (simp [intOf] <;> omega))) | (refine ⟨?_, by simp [intOf] <;> omega⟩; (repeat apply Exists.intro); refine ⟨?rel, ?fr⟩; (case fr => ((repeat' apply And.intro) <;> rfl)); (case rel => exact ⟨j + 1, by omega, by go_num, Lib.hid hown2, hb1⟩)))
        · have HK := Lib.hid hk
          clear hk
          go_wp2_with (go_at_call 106; refine (worker_At lA ln lc l x lo true _ (HL.out.up (by (repeat (first | (with_reducible exact Below.refl _ _) | (with_reducible assumption) | (with_reducible apply bel_alloc) | (with_reducible apply bel_drew) | (with_reducible apply bel_drewN) | (with_reducible refine bel_trans ?_ (by with_reducible assumption)) | (with_reducible refine bel_trans ?_ (HF.out _)) | (with_reducible refine bel_set ?_ (by simp) _) | (with_reducible refine bel_set ?_ (by simp; omega) _) | (with_reducible refine bel_set ?_ (by omega) _))))) HH.out.sorted (by omega) HLO.out HK.out).mono ?_; rintro e w2 ⟨rfl, hb2⟩)
          have hown2 : OwnI w2 (w.heap.size + 1) u4 (missL l ((s.drop cn).take (j + 1))) := by rw [HMT.out, if_pos HK.out, List.append_nil]; exact HO.out.up hb2
          (first | (go_round; (case rel => exact ⟨j + 1, by omega, by go_num, Lib.hid hown2, bel_trans hbw hb2⟩); (case measure => (simp [intOf] <;> omega))) | (go_roundw; (case rel => exact ⟨j + 1, by omega, by go_num, Lib.hid hown2, bel_trans hbw hb2⟩); (case measure => (simp [intOf] <;> omega))) | (refine ⟨?_, by simp [intOf] <;> omega⟩; (repeat apply Exists.intro); refine ⟨?rel, ?fr⟩; (case fr => ((repeat' apply And.intro) <;> rfl)); (case rel => exact ⟨j + 1, by omega, by go_num, Lib.hid hown2, bel_trans hbw hb2⟩)))
      · have e : (s.drop cn).take j = s.drop cn := List.take_of_length_le (by simp [HN.out]; omega)
        have hO := HO.out
        rw [e] at hO
        go_wp2_with fail
        go_ret
        exact ⟨_, rfl, OwnI.mono hO (by omega), hbw⟩
  · obtain rfl : cn = sn := by omega
    have e : missL l (s.drop cn) = [] := by rw [List.drop_of_length_le (by rw [HN.out]; omega)]; rfl
    rw [e]
    clear hc hcn
    by_cases hce : cn = sc
    case' pos => subst hce
    case' neg => have hne2 : ¬ (sc = cn) := fun h => hce h.symm
    all_goals
      cases sA
      all_goals
        go_wp2_with fail
        go_loop [4, 15] (fun v i => v = .slice none 0 0 ∧ i = .int .i64 0) (fun _ _ => 0)
        case atStart => exact ⟨rfl, rfl⟩
        case round =>
          obtain ⟨rfl, rfl⟩ := hrel
          go_wp2_with fail
          go_ret
          exact ⟨_, rfl, OwnI.nil _ _, by (repeat (first | (with_reducible exact Below.refl _ _) | (with_reducible assumption) | (with_reducible apply bel_alloc) | (with_reducible apply bel_drew) | (with_reducible apply bel_drewN) | (with_reducible refine bel_trans ?_ (by with_reducible assumption)) | (with_reducible refine bel_trans ?_ (HF.out _)) | (with_reducible refine bel_set ?_ (by simp) _) | (with_reducible refine bel_set ?_ (by simp; omega) _) | (with_reducible refine bel_set ?_ (by omega) _)))⟩
set_option maxRecDepth 100000 in
set_option maxHeartbeats 4000000 in
theorem exec_Lacks_bad (pA qA sA lA : Option Addr) (pn pc qn qc sn sc ln lc : Nat) (cn : Int) (p : List PairD) (q : List AcctD) (s : List Int) (l : List HeldD) (w : World) (hp : PairsR w pA pn p) (hq : AcctsR w qA qn q) (hs : IntsR w sA sn s) (hl : HeldsR w lA ln l) (hno : ¬ (exB p q s cn = true ∧ hdB l = true)) (h3 : sn ≤ 1000000) (h4 : ln ≤ 1000000) (h5 : sn ≤ sc) :
    Calls Try.prog 46 #[.agg #[.slice pA pn pc, .slice qA qn qc, .slice sA sn sc, .int .i64 cn], .slice lA ln lc] w fun e w' => e = .returned (.tuple #[.slice none 0 0, .int .i64 1]) ∧ Below w.heap.size w w' := by
  have HP := Lib.hid hp
  have HQ := Lib.hid hq
  have HS := Lib.hid hs
  have HL := Lib.hid hl
  obtain ⟨y1, hy1⟩ : ∃ y, exB p q s cn = y := ⟨_, rfl⟩
  obtain ⟨y2, hy2⟩ : ∃ y, hdB l = y := ⟨_, rfl⟩
  rw [hy1, hy2] at hno
  have HY1 := Lib.hid hy1
  have HY2 := Lib.hid hy2
  clear hp hq hs hl hy1 hy2
  cases y1
  case' true =>
    cases y2
    case' true => exact absurd ⟨rfl, rfl⟩ hno
  all_goals
    clear hno
    go_enter Try.func46, Try.ntmps46
    go_wp2_with (first | (go_at_call 76; refine (exec_May pA qA sA pn pc qn qc sn sc p q s cn _ _ (HP.out.up (by (repeat (first | (with_reducible exact Below.refl _ _) | (with_reducible assumption) | (with_reducible apply bel_alloc) | (with_reducible apply bel_drew) | (with_reducible apply bel_drewN) | (with_reducible refine bel_trans ?_ (by with_reducible assumption)) | (with_reducible refine bel_trans ?_ (HF.out _)) | (with_reducible refine bel_set ?_ (by simp) _) | (with_reducible refine bel_set ?_ (by simp; omega) _) | (with_reducible refine bel_set ?_ (by omega) _))))) (HQ.out.up (by (repeat (first | (with_reducible exact Below.refl _ _) | (with_reducible assumption) | (with_reducible apply bel_alloc) | (with_reducible apply bel_drew) | (with_reducible apply bel_drewN) | (with_reducible refine bel_trans ?_ (by with_reducible assumption)) | (with_reducible refine bel_trans ?_ (HF.out _)) | (with_reducible refine bel_set ?_ (by simp) _) | (with_reducible refine bel_set ?_ (by simp; omega) _) | (with_reducible refine bel_set ?_ (by omega) _))))) (HS.out.up (by (repeat (first | (with_reducible exact Below.refl _ _) | (with_reducible assumption) | (with_reducible apply bel_alloc) | (with_reducible apply bel_drew) | (with_reducible apply bel_drewN) | (with_reducible refine bel_trans ?_ (by with_reducible assumption)) | (with_reducible refine bel_trans ?_ (HF.out _)) | (with_reducible refine bel_set ?_ (by simp) _) | (with_reducible refine bel_set ?_ (by simp; omega) _) | (with_reducible refine bel_set ?_ (by omega) _))))) HY1.out).mono ?_; rintro e w1 ⟨rfl, hb1⟩; have hE1 := (BoxR.new w [.slice pA pn pc, .slice qA qn qc, .slice sA sn sc, .int .i64 cn] 68).up hb1; have hbw1 : Below w.heap.size w w1 := (by (repeat (first | (with_reducible exact Below.refl _ _) | (with_reducible assumption) | (with_reducible apply bel_alloc) | (with_reducible apply bel_drew) | (with_reducible apply bel_drewN) | (with_reducible refine bel_trans ?_ (by with_reducible assumption)) | (with_reducible refine bel_trans ?_ (HF.out _)) | (with_reducible refine bel_set ?_ (by simp) _) | (with_reducible refine bel_set ?_ (by simp; omega) _) | (with_reducible refine bel_set ?_ (by omega) _)))); have HE1 := Lib.hid hE1; have hel := hE1.1; have g_0 := (hE1).2 0 _ rfl; have g_1 := (hE1).2 1 _ rfl; have g_2 := (hE1).2 2 _ rfl; have g_3 := (hE1).2 3 _ rfl; clear hE1) | (go_at_call 82; refine (worker_MayHeld lA ln lc l _ _ (HL.out.up hbw1) HY2.out).mono ?_; rintro e w2 ⟨rfl, hb2⟩; have hbw2 : Below w.heap.size w w2 := bel_trans hbw1 hb2; have hE2 := HE1.out.up hb2; clear g_0 g_1 g_2 g_3 hel; have hel := hE2.1; have g_0 := (hE2).2 0 _ rfl; have g_1 := (hE2).2 1 _ rfl; have g_2 := (hE2).2 2 _ rfl; have g_3 := (hE2).2 3 _ rfl; clear hE2))
    go_ret2
    exact ⟨rfl, by (repeat (first | (with_reducible exact Below.refl _ _) | (with_reducible assumption) | (with_reducible apply bel_alloc) | (with_reducible apply bel_drew) | (with_reducible apply bel_drewN) | (with_reducible refine bel_trans ?_ (by with_reducible assumption)) | (with_reducible refine bel_trans ?_ (HF.out _)) | ((with_reducible refine bel_set3 ?_ ?_); rotate_left; omega)))⟩
set_option maxRecDepth 100000 in
set_option maxHeartbeats 4000000 in
theorem exec_Lacks_ok (pA qA sA lA : Option Addr) (pn pc qn qc sn sc ln lc : Nat) (cn : Nat) (p : List PairD) (q : List AcctD) (s : List Int) (l : List HeldD) (w : World) (hp : PairsR w pA pn p) (hq : AcctsR w qA qn q) (hs : IntsR w sA sn s) (hl : HeldsR w lA ln l) (h1 : exB p q s cn = true) (h2 : hdB l = true) (h3 : sn ≤ 1000000) (h4 : ln ≤ 1000000) (h5 : sn ≤ sc) :
    Calls Try.prog 46 #[.agg #[.slice pA pn pc, .slice qA qn qc, .slice sA sn sc, .int .i64 cn], .slice lA ln lc] w fun e w' => ∃ v, e = .returned (.tuple #[v, .int .i64 0]) ∧ OwnI w' w.heap.size v (missL l (s.drop cn)) ∧ Below w.heap.size w w' := by
  have HP := Lib.hid hp
  have HQ := Lib.hid hq
  have HS := Lib.hid hs
  have HL := Lib.hid hl
  have HY1 := Lib.hid h1
  have HY2 := Lib.hid h2
  have hcn : cn ≤ sn := by have := (exB_iff.1 h1).2.2.2; rw [hs.1] at this; omega
  clear hp hq hs hl h1 h2
  go_enter Try.func46, Try.ntmps46
  go_wp2_with (first | (go_at_call 76; refine (exec_May pA qA sA pn pc qn qc sn sc p q s cn _ _ (HP.out.up (by (repeat (first | (with_reducible exact Below.refl _ _) | (with_reducible assumption) | (with_reducible apply bel_alloc) | (with_reducible apply bel_drew) | (with_reducible apply bel_drewN) | (with_reducible refine bel_trans ?_ (by with_reducible assumption)) | (with_reducible refine bel_trans ?_ (HF.out _)) | (with_reducible refine bel_set ?_ (by simp) _) | (with_reducible refine bel_set ?_ (by simp; omega) _) | (with_reducible refine bel_set ?_ (by omega) _))))) (HQ.out.up (by (repeat (first | (with_reducible exact Below.refl _ _) | (with_reducible assumption) | (with_reducible apply bel_alloc) | (with_reducible apply bel_drew) | (with_reducible apply bel_drewN) | (with_reducible refine bel_trans ?_ (by with_reducible assumption)) | (with_reducible refine bel_trans ?_ (HF.out _)) | (with_reducible refine bel_set ?_ (by simp) _) | (with_reducible refine bel_set ?_ (by simp; omega) _) | (with_reducible refine bel_set ?_ (by omega) _))))) (HS.out.up (by (repeat (first | (with_reducible exact Below.refl _ _) | (with_reducible assumption) | (with_reducible apply bel_alloc) | (with_reducible apply bel_drew) | (with_reducible apply bel_drewN) | (with_reducible refine bel_trans ?_ (by with_reducible assumption)) | (with_reducible refine bel_trans ?_ (HF.out _)) | (with_reducible refine bel_set ?_ (by simp) _) | (with_reducible refine bel_set ?_ (by simp; omega) _) | (with_reducible refine bel_set ?_ (by omega) _))))) HY1.out).mono ?_; rintro e w1 ⟨rfl, hb1⟩; have hE1 := (BoxR.new w [.slice pA pn pc, .slice qA qn qc, .slice sA sn sc, .int .i64 cn] 68).up hb1; have hbw1 : Below w.heap.size w w1 := (by (repeat (first | (with_reducible exact Below.refl _ _) | (with_reducible assumption) | (with_reducible apply bel_alloc) | (with_reducible apply bel_drew) | (with_reducible apply bel_drewN) | (with_reducible refine bel_trans ?_ (by with_reducible assumption)) | (with_reducible refine bel_trans ?_ (HF.out _)) | (with_reducible refine bel_set ?_ (by simp) _) | (with_reducible refine bel_set ?_ (by simp; omega) _) | (with_reducible refine bel_set ?_ (by omega) _)))); have HE1 := Lib.hid hE1; have hel := hE1.1; have g_0 := (hE1).2 0 _ rfl; have g_1 := (hE1).2 1 _ rfl; have g_2 := (hE1).2 2 _ rfl; have g_3 := (hE1).2 3 _ rfl; clear hE1) | (go_at_call 82; refine (worker_MayHeld lA ln lc l _ _ (HL.out.up hbw1) HY2.out).mono ?_; rintro e w2 ⟨rfl, hb2⟩; have hbw2 : Below w.heap.size w w2 := bel_trans hbw1 hb2; have hE2 := HE1.out.up hb2; clear g_0 g_1 g_2 g_3 hel; have hel := hE2.1; have g_0 := (hE2).2 0 _ rfl; have g_1 := (hE2).2 1 _ rfl; have g_2 := (hE2).2 2 _ rfl; have g_3 := (hE2).2 3 _ rfl; clear hE2) | (go_at_call 85; refine (exec_Missing pA qA sA lA pn pc qn qc sn sc ln lc cn s l _ (HL.out.up hbw2) (HS.out.up hbw2) (hdB_iff.1 HY2.out) hcn h3 h5 h4).mono ?_; rintro e w3 ⟨v, rfl, hown, hb3⟩))
  go_ret2
  exact ⟨_, rfl, OwnI.mono hown hbw2.size, by (repeat (first | (with_reducible exact Below.refl _ _) | (with_reducible assumption) | (with_reducible apply bel_alloc) | (with_reducible apply bel_drew) | (with_reducible apply bel_drewN) | (with_reducible refine bel_trans ?_ (by with_reducible assumption)) | (with_reducible refine bel_trans ?_ (HF.out _)) | ((with_reducible refine bel_set3 ?_ ?_); rotate_left; omega)))⟩
set_option maxRecDepth 100000 in
set_option maxHeartbeats 16000000 in
theorem law_ExecLacks (P : ScrP) (D : ScrD) (w : World) (h : ScrR w P D) :
    Calls Try.prog 12 #[P.val D] w fun e w' => e = .returned (.bool true) ∧ Below w.heap.size w w' := by
  obtain ⟨⟨pA, pn, pc⟩, ⟨qA, qn, qc⟩, ⟨sA, sn, sc⟩, ⟨lA, ln, lc⟩⟩ := P
  have H := Lib.hid h
  have HP : Hid (PairsR w pA pn D.e.p) := Lib.hid h.p
  have HQ : Hid (AcctsR w qA qn D.e.q) := Lib.hid h.q
  have HS : Hid (IntsR w sA sn D.e.s) := Lib.hid h.s
  have HL : Hid (ActsR w lA ln D.l) := Lib.hid h.l
  have hsc : sn ≤ sc := h.sc
  clear h
  obtain ⟨ec, hec⟩ : ∃ z, D.e.c = z := ⟨_, rfl⟩
  obtain ⟨yE, hyE⟩ : ∃ y, exB D.e.p D.e.q D.e.s ec = y := ⟨_, rfl⟩
  have HEC := Lib.hid hec
  have HYE := Lib.hid hyE
  have hheavy := law23_heavy ⟨⟨pA, pn, pc⟩, ⟨qA, qn, qc⟩, ⟨sA, sn, sc⟩, ⟨lA, ln, lc⟩⟩ D
  show Calls Try.prog 12 #[.agg #[.slice pA pn pc, .slice qA qn qc, .slice sA sn sc, .int .i64 D.e.c, .slice lA ln lc]] w _
  simp only [ScrP.val] at hheavy
  rw [hec] at hheavy ⊢
  have HHV := Lib.hid hheavy
  clear hheavy hec hyE
  go_enter Try.func12, Try.ntmps12
  go_wp2_with fail
  refine (HHV.out _ (H.out.up (by (repeat (first | (with_reducible exact Below.refl _ _) | (with_reducible assumption) | (with_reducible apply bel_alloc) | (with_reducible apply bel_drew) | (with_reducible apply bel_drewN) | (with_reducible refine bel_trans ?_ (by with_reducible assumption)) | (with_reducible refine bel_trans ?_ (HF.out _)) | (with_reducible refine bel_set ?_ (by simp) _) | (with_reducible refine bel_set ?_ (by simp; omega) _) | (with_reducible refine bel_set ?_ (by omega) _)))))).mono ?_
  rintro e w1 ⟨x, rfl, hx, hb1⟩
  cases x
  case true =>
    clear hx
    go_wp2_with fail
    go_ret
    exact ⟨rfl, by (repeat (first | (with_reducible exact Below.refl _ _) | (with_reducible assumption) | (with_reducible apply bel_alloc) | (with_reducible apply bel_drew) | (with_reducible apply bel_drewN) | (with_reducible refine bel_trans ?_ (by with_reducible assumption)) | (with_reducible refine bel_trans ?_ (HF.out _)) | (with_reducible refine bel_set ?_ (by simp) _) | (with_reducible refine bel_set ?_ (by simp; omega) _) | (with_reducible refine bel_set ?_ (by omega) _)))⟩
  case false =>
  have hLt := hx rfl
  have hp4 : pn ≤ 4000 := hLt.p
  have hq4 : qn ≤ 4000 := hLt.q
  have hs3 : sn ≤ 300 := hLt.s
  have hl1 : ln ≤ 100 := hLt.l
  have HLT := Lib.hid hLt
  have hB1 : BoxR w1 w.heap.size [.slice pA pn pc, .slice qA qn qc, .slice sA sn sc, .int .i64 ec, .slice lA ln lc] := (BoxR.new w [.slice pA pn pc, .slice qA qn qc, .slice sA sn sc, .int .i64 ec, .slice lA ln lc] 71).up hb1
  have hbw1 : Below w.heap.size w w1 := by (repeat (first | (with_reducible exact Below.refl _ _) | (with_reducible assumption) | (with_reducible apply bel_alloc) | (with_reducible apply bel_drew) | (with_reducible apply bel_drewN) | (with_reducible refine bel_trans ?_ (by with_reducible assumption)) | (with_reducible refine bel_trans ?_ (HF.out _)) | (with_reducible refine bel_set ?_ (by simp) _) | (with_reducible refine bel_set ?_ (by simp; omega) _) | (with_reducible refine bel_set ?_ (by omega) _)))
  have HB1 := Lib.hid hB1
  have hg1 := hB1.1
  have b_0 := (hB1).2 0 _ rfl; have b_1 := (hB1).2 1 _ rfl; have b_2 := (hB1).2 2 _ rfl; have b_3 := (hB1).2 3 _ rfl; have b_4 := (hB1).2 4 _ rfl
  clear hx hLt hb1 hB1
  cases yE
  case false =>
    go_wp2_with (go_at_call 34; refine (ref22_Exec pA qA sA pn pc qn qc sn sc D.e.p D.e.q D.e.s ec _ _ (HP.out.up hbw1) (HQ.out.up hbw1) (HS.out.up hbw1) hsc (by omega) HYE.out).mono ?_; rintro e w2 ⟨rfl, hb2⟩)
    go_ret
    exact ⟨rfl, by (repeat (first | (with_reducible exact Below.refl _ _) | (with_reducible assumption) | (with_reducible apply bel_alloc) | (with_reducible apply bel_drew) | (with_reducible apply bel_drewN) | (with_reducible refine bel_trans ?_ (by with_reducible assumption)) | (with_reducible refine bel_trans ?_ (HF.out _)) | (with_reducible refine bel_set ?_ (by simp) _) | (with_reducible refine bel_set ?_ (by simp; omega) _) | (with_reducible refine bel_set ?_ (by omega) _)))⟩
  case true =>
  go_wp2_with (go_at_call 34; refine (ref22_Exec pA qA sA pn pc qn qc sn sc D.e.p D.e.q D.e.s ec _ _ (HP.out.up hbw1) (HQ.out.up hbw1) (HS.out.up hbw1) hsc (by omega) HYE.out).mono ?_; rintro e w2 ⟨rfl, hb2⟩)
  have hbw2 : Below w.heap.size w w2 := by (repeat (first | (with_reducible exact Below.refl _ _) | (with_reducible assumption) | (with_reducible apply bel_alloc) | (with_reducible apply bel_drew) | (with_reducible apply bel_drewN) | (with_reducible refine bel_trans ?_ (by with_reducible assumption)) | (with_reducible refine bel_trans ?_ (HF.out _)) | (with_reducible refine bel_set ?_ (by simp) _) | (with_reducible refine bel_set ?_ (by simp; omega) _) | (with_reducible refine bel_set ?_ (by omega) _)))
  have HB2 := Lib.hid (HB1.out.up hb2)
  clear b_0 b_1 b_2 b_3 b_4 hg1 HB1 hbw1 hb2 HHV
  go_loopw [3] (fun ix wr => ∃ k : Nat, k ≤ ln ∧ ix = .int .i64 k ∧ Hid (BoxR wr w.heap.size [.slice pA pn pc, .slice qA qn qc, .slice sA sn sc, .int .i64 ec, .slice lA ln lc]) ∧ Below w.heap.size w wr) (fun ix _ => ln - (intOf ix).toNat)
  case atStart => exact ⟨0, Nat.zero_le _, rfl, HB2, hbw2⟩
  case round =>
    clear HB2 hbw2
    obtain ⟨k, hk, rfl, HB, hbw⟩ := hrel
    (obtain ⟨wk, hwk⟩ : ∃ x, x = wr := ⟨_, rfl⟩); subst hwk
    have b_0 := (HB.out).2 0 _ rfl; have b_1 := (HB.out).2 1 _ rfl; have b_2 := (HB.out).2 2 _ rfl; have b_3 := (HB.out).2 3 _ rfl; have b_4 := (HB.out).2 4 _ rfl
    have hg0 := HB.out.1
    by_cases hlt : k < ln ∧ k < 12
    · obtain ⟨hlt1, hlt2⟩ := hlt
      obtain ⟨ab, aoff, rfl, hab, hac⟩ := (HL.out.up hbw).2.2 (by omega)
      obtain ⟨A5, m5, d5, C5, k5, e5, c0, c1, c2, hI, hH⟩ := hac k hlt1
      obtain ⟨a, ha⟩ : ∃ a, acth D.l k = a := ⟨_, rfl⟩
      rw [ha] at c0 hI hH
      have ham : a ∈ D.l := by rw [← ha]; have := HL.out.1; simp [acth, show k < D.l.length by omega]
      have hm6 : k5 ≤ 6000 := by rw [← hH.1]; exact HLT.out.hi a ham
      have HHX := Lib.hid hH
      have hck := c2
      have hcells : ∀ Y, Below wk.heap.size wk Y → Y.cell? ⟨w.heap.size, 0, none⟩ = some (.slice pA pn pc) ∧ Y.cell? ⟨w.heap.size, 1, none⟩ = some (.slice qA qn qc) ∧ Y.cell? ⟨w.heap.size, 2, none⟩ = some (.slice sA sn sc) ∧ Y.cell? ⟨w.heap.size, 3, none⟩ = some (.int .i64 ec) ∧ Y.cell? ⟨w.heap.size, 4, none⟩ = some (.slice (some ⟨ab, aoff, none⟩) ln lc) ∧ Y.cell? ⟨ab, aoff + k * 3 + 2, none⟩ = some (.slice C5 k5 e5) := fun Y hY => by
        have q := (HB.out.up hY).2
        exact ⟨q 0 _ rfl, q 1 _ rfl, q 2 _ rfl, q 3 _ rfl, q 4 _ rfl, (hY.cell (p := ⟨ab, aoff + k * 3 + 2, none⟩) hab).trans hck⟩
      have HCELLS := Lib.hid hcells
      have HPX := Lib.hid (HP.out.up hbw)
      have HQX := Lib.hid (HQ.out.up hbw)
      have HSX := Lib.hid (HS.out.up hbw)
      clear hac ha hI hH c0 c1 ham hcells
      obtain ⟨yd, hyd⟩ : ∃ y, hdB a.h = y := ⟨_, rfl⟩
      have HYD := Lib.hid hyd
      clear hyd
      go_wp2_with fail
      refine (ref13_Held C5 k5 e5 a.h yd _ HHX.out HYD.out).mono ?_
      rintro e w3 ⟨rfl, hb3⟩
      have hbw3 := bel_trans hbw hb3
      have HB3 := Lib.hid (HB.out.up hb3)
      have hab3 : ab < w3.heap.size := Nat.lt_of_lt_of_le hab hb3.size
      have c2' := (hb3.cell (p := ⟨ab, aoff + k * 3 + 2, none⟩) hab).trans hck
      clear b_0 b_1 b_2 b_3 b_4 c2
      have b_0 := (HB3.out).2 0 _ rfl; have b_1 := (HB3.out).2 1 _ rfl; have b_2 := (HB3.out).2 2 _ rfl; have b_3 := (HB3.out).2 3 _ rfl; have b_4 := (HB3.out).2 4 _ rfl
      have c2 := c2'
      have hg3 := HB3.out.1
      clear c2'
      cases yd
      case false =>
        have HNO : Hid (¬ (exB D.e.p D.e.q D.e.s ec = true ∧ hdB a.h = true)) := Lib.hid (fun h => by rw [HYD.out] at h; cases h.2)
        go_upto_region 9 with fail
        go_cut [6, 7] from 43 to 54 (fun s0 s1 wx => s0 = .slice none 0 0 ∧ s1 = .int .i64 1 ∧ Below w3.heap.size w3 wx)
        case first =>
          clear b_0 b_1 b_2 b_3 b_4 c2
          go_region_held3 (fun Y => Y.cell? ⟨w.heap.size, 0, none⟩ = some (.slice pA pn pc) ∧ Y.cell? ⟨w.heap.size, 1, none⟩ = some (.slice qA qn qc) ∧ Y.cell? ⟨w.heap.size, 2, none⟩ = some (.slice sA sn sc) ∧ Y.cell? ⟨w.heap.size, 3, none⟩ = some (.int .i64 ec) ∧ Y.cell? ⟨w.heap.size, 4, none⟩ = some (.slice (some ⟨ab, aoff, none⟩) ln lc) ∧ Y.cell? ⟨ab, aoff + k * 3 + 2, none⟩ = some (.slice C5 k5 e5))
            (exact HCELLS.out _ (by (repeat (first | (with_reducible exact Below.refl _ _) | (with_reducible assumption) | (with_reducible apply bel_alloc) | (with_reducible apply bel_drew) | (with_reducible apply bel_drewN) | (with_reducible refine bel_trans ?_ (by with_reducible assumption)) | (with_reducible refine bel_trans ?_ (HF.out _)) | ((with_reducible refine bel_set3 ?_ ?_); rotate_left; omega)))))
            ((go_at_call 46; refine (exec_Lacks_bad pA qA sA C5 pn pc qn qc sn sc k5 e5 ec D.e.p D.e.q D.e.s a.h _ (HPX.out.up (by (repeat (first | (with_reducible exact Below.refl _ _) | (with_reducible assumption) | (with_reducible apply bel_alloc) | (with_reducible apply bel_drew) | (with_reducible apply bel_drewN) | (with_reducible refine bel_trans ?_ (by with_reducible assumption)) | (with_reducible refine bel_trans ?_ (HF.out _)) | (with_reducible refine bel_set ?_ (by simp) _) | (with_reducible refine bel_set ?_ (by simp; omega) _) | (with_reducible refine bel_set ?_ (by omega) _))))) (HQX.out.up (by (repeat (first | (with_reducible exact Below.refl _ _) | (with_reducible assumption) | (with_reducible apply bel_alloc) | (with_reducible apply bel_drew) | (with_reducible apply bel_drewN) | (with_reducible refine bel_trans ?_ (by with_reducible assumption)) | (with_reducible refine bel_trans ?_ (HF.out _)) | (with_reducible refine bel_set ?_ (by simp) _) | (with_reducible refine bel_set ?_ (by simp; omega) _) | (with_reducible refine bel_set ?_ (by omega) _))))) (HSX.out.up (by (repeat (first | (with_reducible exact Below.refl _ _) | (with_reducible assumption) | (with_reducible apply bel_alloc) | (with_reducible apply bel_drew) | (with_reducible apply bel_drewN) | (with_reducible refine bel_trans ?_ (by with_reducible assumption)) | (with_reducible refine bel_trans ?_ (HF.out _)) | (with_reducible refine bel_set ?_ (by simp) _) | (with_reducible refine bel_set ?_ (by simp; omega) _) | (with_reducible refine bel_set ?_ (by omega) _))))) (HHX.out.up (by (repeat (first | (with_reducible exact Below.refl _ _) | (with_reducible assumption) | (with_reducible apply bel_alloc) | (with_reducible apply bel_drew) | (with_reducible apply bel_drewN) | (with_reducible refine bel_trans ?_ (by with_reducible assumption)) | (with_reducible refine bel_trans ?_ (HF.out _)) | (with_reducible refine bel_set ?_ (by simp) _) | (with_reducible refine bel_set ?_ (by simp; omega) _) | (with_reducible refine bel_set ?_ (by omega) _))))) HNO.out (by omega) (by omega) hsc).mono ?_; rintro e w7 ⟨rfl, hb7⟩))
          go_wp2_with fail
          go_meet
          exact ⟨rfl, rfl, by (repeat (first | (with_reducible exact Below.refl _ _) | (with_reducible assumption) | (with_reducible apply bel_alloc) | (with_reducible apply bel_drew) | (with_reducible apply bel_drewN) | (with_reducible refine bel_trans ?_ (by with_reducible assumption)) | (with_reducible refine bel_trans ?_ (HF.out _)) | ((with_reducible refine bel_set3 ?_ ?_); rotate_left; omega)))⟩
        case rest =>
        obtain ⟨rfl, rfl, hbc⟩ := hcut
        clear b_0 b_1 b_2 b_3 b_4 c2
        go_wp2_with (first
          | (go_at_call 38; refine (law23_num _ _).mono ?_; rintro e w' ⟨rfl, rfl⟩)
          | (go_at_call 43; refine (ref0_EqNumbers_same none 0 0 [] none 0 0 _ (IntsR.nil _ _) (IntsR.nil _ _)).mono ?_; rintro e w9 ⟨rfl, hb9⟩))
        have hbe : Below w3.heap.size w3 w9 := bel_trans hbc hb9
        (first | (go_round; (case rel => exact ⟨k + 1, by omega, by go_num, Lib.hid (HB3.out.up hbe), bel_trans hbw3 hbe⟩); (case measure => (simp [intOf] <;> omega))) | (go_roundw; (case rel => exact ⟨k + 1, by omega, by go_num, Lib.hid (HB3.out.up hbe), bel_trans hbw3 hbe⟩); (case measure => (simp [intOf] <;> omega))) | (refine ⟨?_, by simp [intOf] <;> omega⟩; (repeat apply Exists.intro); refine ⟨?rel, ?fr⟩; (case fr => ((repeat' apply And.intro) <;> rfl)); (case rel => exact ⟨k + 1, by omega, by go_num, Lib.hid (HB3.out.up hbe), bel_trans hbw3 hbe⟩)))
      case true =>
        have hec0 := (exB_iff.1 HYE.out).2.2
        obtain ⟨cn, hcn⟩ : ∃ cn : Nat, ec = (cn : Int) := ⟨ec.toNat, by omega⟩
        subst hcn
        have hcs : cn ≤ sn := by have := hec0.2; rw [HS.out.1] at this; omega
        obtain ⟨n6, hn6⟩ : ∃ n, (missL a.h (D.e.s.drop cn)).length = n := ⟨_, rfl⟩
        have hn6l : n6 ≤ 300 := by rw [← hn6]; refine Nat.le_trans miss_len ?_; have := HS.out.1; simp; omega
        have HN6 := Lib.hid hn6
        clear hn6 hec0
        go_upto_region 8 with fail
        go_cut [4, 5] from 34 to 42 (fun s0 s1 wx => ∃ (Bf : Option Addr) (df : Nat), s0 = .int .i64 0 ∧ s1 = .slice Bf n6 df ∧ Hid (IntsR wx Bf n6 (missL a.h (D.e.s.drop cn))) ∧ Below w3.heap.size w3 wx)
        case first =>
          clear b_0 b_1 b_2 b_3 b_4 c2
          go_region_held3 (fun Y => Y.cell? ⟨w.heap.size, 0, none⟩ = some (.slice pA pn pc) ∧ Y.cell? ⟨w.heap.size, 1, none⟩ = some (.slice qA qn qc) ∧ Y.cell? ⟨w.heap.size, 2, none⟩ = some (.slice sA sn sc) ∧ Y.cell? ⟨w.heap.size, 3, none⟩ = some (.int .i64 cn) ∧ Y.cell? ⟨w.heap.size, 4, none⟩ = some (.slice (some ⟨ab, aoff, none⟩) ln lc) ∧ Y.cell? ⟨ab, aoff + k * 3 + 2, none⟩ = some (.slice C5 k5 e5))
            (exact HCELLS.out _ (by (repeat (first | (with_reducible exact Below.refl _ _) | (with_reducible assumption) | (with_reducible apply bel_alloc) | (with_reducible apply bel_drew) | (with_reducible apply bel_drewN) | (with_reducible refine bel_trans ?_ (by with_reducible assumption)) | (with_reducible refine bel_trans ?_ (HF.out _)) | ((with_reducible refine bel_set3 ?_ ?_); rotate_left; omega)))))
            ((go_at_call 45; refine (ref22_Lacks pA qA sA C5 pn pc qn qc sn sc k5 e5 cn D.e.s a.h _ (HHX.out.up (by (repeat (first | (with_reducible exact Below.refl _ _) | (with_reducible assumption) | (with_reducible apply bel_alloc) | (with_reducible apply bel_drew) | (with_reducible apply bel_drewN) | (with_reducible refine bel_trans ?_ (by with_reducible assumption)) | (with_reducible refine bel_trans ?_ (HF.out _)) | (with_reducible refine bel_set ?_ (by simp) _) | (with_reducible refine bel_set ?_ (by simp; omega) _) | (with_reducible refine bel_set ?_ (by omega) _))))) (HSX.out.up (by (repeat (first | (with_reducible exact Below.refl _ _) | (with_reducible assumption) | (with_reducible apply bel_alloc) | (with_reducible apply bel_drew) | (with_reducible apply bel_drewN) | (with_reducible refine bel_trans ?_ (by with_reducible assumption)) | (with_reducible refine bel_trans ?_ (HF.out _)) | (with_reducible refine bel_set ?_ (by simp) _) | (with_reducible refine bel_set ?_ (by simp; omega) _) | (with_reducible refine bel_set ?_ (by omega) _))))) (hdB_iff.1 HYD.out) hcs (by omega)).mono ?_; rintro e w7 ⟨v7, rfl, hown7, hb7⟩; obtain ⟨Bf, df, rfl, hr7⟩ := nmI hown7 HN6.out (by omega); clear hown7))
          go_wp2_with fail
          go_meet
          exact ⟨Bf, df, rfl, rfl, Lib.hid hr7, by (repeat (first | (with_reducible exact Below.refl _ _) | (with_reducible assumption) | (with_reducible apply bel_alloc) | (with_reducible apply bel_drew) | (with_reducible apply bel_drewN) | (with_reducible refine bel_trans ?_ (by with_reducible assumption)) | (with_reducible refine bel_trans ?_ (HF.out _)) | ((with_reducible refine bel_set3 ?_ ?_); rotate_left; omega)))⟩
        case rest =>
        obtain ⟨Af, cf, rfl, rfl, HRd, hbc⟩ := hcut
        obtain ⟨v, hv⟩ : ∃ x, x = wc := ⟨_, rfl⟩
        subst hv
        have hbkv := bel_trans hb3 hbc
        have hBv := HB.out.up hbkv
        have hgv := hBv.1
        have habv : ab < v.heap.size := Nat.lt_of_lt_of_le hab hbkv.size
        clear b_0 b_1 b_2 b_3 b_4 c2
        have b_0 := (hBv).2 0 _ rfl; have b_1 := (hBv).2 1 _ rfl; have b_2 := (hBv).2 2 _ rfl; have b_3 := (hBv).2 3 _ rfl; have b_4 := (hBv).2 4 _ rfl
        have c2 := (hbkv.cell (p := ⟨ab, aoff + k * 3 + 2, none⟩) hab).trans hck
        have HBv := Lib.hid hBv
        clear hBv
        go_upto_region 9 with fail
        go_cut [6, 7] from 43 to 54 (fun s0 s1 wx => ∃ (Bf : Option Addr) (df : Nat), s0 = .slice Bf n6 df ∧ s1 = .int .i64 0 ∧ Hid (IntsR wx Bf n6 (missL a.h (D.e.s.drop cn))) ∧ Below v.heap.size v wx)
        case first =>
          clear b_0 b_1 b_2 b_3 b_4 c2
          go_region_held3 (fun Y => Y.cell? ⟨w.heap.size, 0, none⟩ = some (.slice pA pn pc) ∧ Y.cell? ⟨w.heap.size, 1, none⟩ = some (.slice qA qn qc) ∧ Y.cell? ⟨w.heap.size, 2, none⟩ = some (.slice sA sn sc) ∧ Y.cell? ⟨w.heap.size, 3, none⟩ = some (.int .i64 cn) ∧ Y.cell? ⟨w.heap.size, 4, none⟩ = some (.slice (some ⟨ab, aoff, none⟩) ln lc) ∧ Y.cell? ⟨ab, aoff + k * 3 + 2, none⟩ = some (.slice C5 k5 e5))
            (exact HCELLS.out _ (by (repeat (first | (with_reducible exact Below.refl _ _) | (with_reducible assumption) | (with_reducible apply bel_alloc) | (with_reducible apply bel_drew) | (with_reducible apply bel_drewN) | (with_reducible refine bel_trans ?_ (by with_reducible assumption)) | (with_reducible refine bel_trans ?_ (HF.out _)) | ((with_reducible refine bel_set3 ?_ ?_); rotate_left; omega)))))
            ((go_at_call 46; refine (exec_Lacks_ok pA qA sA C5 pn pc qn qc sn sc k5 e5 cn D.e.p D.e.q D.e.s a.h _ (HPX.out.up (by (repeat (first | (with_reducible exact Below.refl _ _) | (with_reducible assumption) | (with_reducible apply bel_alloc) | (with_reducible apply bel_drew) | (with_reducible apply bel_drewN) | (with_reducible refine bel_trans ?_ (by with_reducible assumption)) | (with_reducible refine bel_trans ?_ (HF.out _)) | (with_reducible refine bel_set ?_ (by simp) _) | (with_reducible refine bel_set ?_ (by simp; omega) _) | (with_reducible refine bel_set ?_ (by omega) _))))) (HQX.out.up (by (repeat (first | (with_reducible exact Below.refl _ _) | (with_reducible assumption) | (with_reducible apply bel_alloc) | (with_reducible apply bel_drew) | (with_reducible apply bel_drewN) | (with_reducible refine bel_trans ?_ (by with_reducible assumption)) | (with_reducible refine bel_trans ?_ (HF.out _)) | (with_reducible refine bel_set ?_ (by simp) _) | (with_reducible refine bel_set ?_ (by simp; omega) _) | (with_reducible refine bel_set ?_ (by omega) _))))) (HSX.out.up (by (repeat (first | (with_reducible exact Below.refl _ _) | (with_reducible assumption) | (with_reducible apply bel_alloc) | (with_reducible apply bel_drew) | (with_reducible apply bel_drewN) | (with_reducible refine bel_trans ?_ (by with_reducible assumption)) | (with_reducible refine bel_trans ?_ (HF.out _)) | (with_reducible refine bel_set ?_ (by simp) _) | (with_reducible refine bel_set ?_ (by simp; omega) _) | (with_reducible refine bel_set ?_ (by omega) _))))) (HHX.out.up (by (repeat (first | (with_reducible exact Below.refl _ _) | (with_reducible assumption) | (with_reducible apply bel_alloc) | (with_reducible apply bel_drew) | (with_reducible apply bel_drewN) | (with_reducible refine bel_trans ?_ (by with_reducible assumption)) | (with_reducible refine bel_trans ?_ (HF.out _)) | (with_reducible refine bel_set ?_ (by simp) _) | (with_reducible refine bel_set ?_ (by simp; omega) _) | (with_reducible refine bel_set ?_ (by omega) _))))) HYE.out HYD.out (by omega) (by omega) hsc).mono ?_; rintro e w7 ⟨v7, rfl, hown7, hb7⟩; obtain ⟨Bf, df, rfl, hr7⟩ := nmI hown7 HN6.out (by omega); clear hown7))
          go_wp2_with fail
          go_meet
          exact ⟨Bf, df, rfl, rfl, Lib.hid hr7, by (repeat (first | (with_reducible exact Below.refl _ _) | (with_reducible assumption) | (with_reducible apply bel_alloc) | (with_reducible apply bel_drew) | (with_reducible apply bel_drewN) | (with_reducible refine bel_trans ?_ (by with_reducible assumption)) | (with_reducible refine bel_trans ?_ (HF.out _)) | ((with_reducible refine bel_set3 ?_ ?_); rotate_left; omega)))⟩
        case rest =>
        obtain ⟨Bf, df, rfl, rfl, HRe, hbd⟩ := hcut
        obtain ⟨u, hu⟩ : ∃ x, x = wc := ⟨_, rfl⟩
        subst hu
        clear b_0 b_1 b_2 b_3 b_4 c2
        go_wp2_with (first
          | (go_at_call 38; refine (law23_num _ _).mono ?_; rintro e w' ⟨rfl, rfl⟩)
          | (go_at_call 43; refine (ref0_EqNumbers_same Bf n6 df (missL a.h (D.e.s.drop cn)) Af n6 cf _ HRe.out (HRd.out.up hbd)).mono ?_; rintro e w9 ⟨rfl, hb9⟩))
        have hbe : Below v.heap.size v w9 := bel_trans hbd hb9
        (first | (go_round; (case rel => exact ⟨k + 1, by omega, by go_num, Lib.hid (HBv.out.up hbe), bel_trans hbw (bel_trans hbkv hbe)⟩); (case measure => (simp [intOf] <;> omega))) | (go_roundw; (case rel => exact ⟨k + 1, by omega, by go_num, Lib.hid (HBv.out.up hbe), bel_trans hbw (bel_trans hbkv hbe)⟩); (case measure => (simp [intOf] <;> omega))) | (refine ⟨?_, by simp [intOf] <;> omega⟩; (repeat apply Exists.intro); refine ⟨?rel, ?fr⟩; (case fr => ((repeat' apply And.intro) <;> rfl)); (case rel => exact ⟨k + 1, by omega, by go_num, Lib.hid (HBv.out.up hbe), bel_trans hbw (bel_trans hbkv hbe)⟩)))
    · go_wp2_with (go_at_call 41; refine (law23_wakes _).mono ?_; rintro e w9 ⟨rfl, hb9⟩)
      all_goals
        go_ret
        exact ⟨rfl, bel_trans hbw hb9⟩
end Go.Proofs.Ytgljmljmljccgaa
