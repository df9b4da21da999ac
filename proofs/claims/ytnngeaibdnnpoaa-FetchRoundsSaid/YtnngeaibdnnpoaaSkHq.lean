/- Fetch: fetch.Add. -/
import Derived.Test.YtnngeaibdnnpoaaSkHs
import Derived.Test.YtnngeaibdnnpoaaSkHw
import Derived.Test.YtnngeaibdnnpoaaSkWsn
namespace Go.Proofs.Ytnngeaibdnnpoaa
open Go.RowKit
set_option linter.unusedSimpArgs false
set_option linter.unusedVariables false

theorem wp_two {F : World → Prop} {w : World} (h : ∀ W, W = w → F W) : F w := h w rfl
def ApQ (u v : Value) : Prop := ∀ g, u.ownBlock = some g → v.ownBlock ≠ some g
theorem ApQ.symm {u v : Value} (h : ApQ u v) : ApQ v u := fun g e1 e2 => h g e2 e1
theorem ApQ.moved {u v v' : Value} {N : Nat} (h : ApQ u v) (hat : ∀ g, v'.ownBlock = some g → v.ownBlock = some g ∨ g = N) (hlt : ∀ g, u.ownBlock = some g → g < N) : ApQ u v' := fun g e e2 => (hat g e2).elim (fun h2 => h g e h2) (fun h2 => by have := hlt g e; omega)
theorem OwnQ.apart {w w' : World} {B : Nat} {u v : Value} {l : List FRowD} (h : OwnQ w B u l) (hg : w.grownBy w' v.ownBlock) (ha : ApQ u v) : OwnQ w' B u l := by
  refine World.ownsRow.kept h hg ?_
  cases e : u.ownBlock with
  | none => exact .inl rfl
  | some g => exact .inr (fun e2 => ha g e (by rw [← e2]))
theorem Blk.apart {w w' : World} {B g : Nat} {t : TypeId} {cs : List Value} {v : Value} (h : Blk w g t cs) (hg : w.grownBy w' v.ownBlock) (hne : v.ownBlock ≠ some g) : Blk w' g t cs := (hg.block g (Array.getElem?_eq_some_iff.1 h).1 (fun e => hne e.symm)).trans h
theorem flat_insQ (l : List FRowD) (r : FRowD) (i : Nat) : (flat encQ l).take (i * 4) ++ encQ r ++ (flat encQ l).drop (i * 4) = flat encQ (l.take i ++ r :: l.drop i) := by
  rw [flat_app, show r :: l.drop i = [r] ++ l.drop i from rfl, flat_app, flat_one, flat_take encQ_len, flat_drop encQ_len, List.append_assoc]
set_option maxRecDepth 100000 in
set_option maxHeartbeats 8000000 in
theorem fetch_Add (id nodes k : Int) (A : Option Addr) (n c : Nat) (rows : List FRowD) (lA : Option Addr) (ln lc : Nat) (L : List Int) (w : World) (hl : RowsR w A n rows) (hL : IntsR w lA ln L) (hs : SortQ rows) (hn : n ≤ 64) (ht : ∀ x ∈ rows, numB x.tr 0 = true) (hln : ln ≤ 17592186044416) :
    Calls Try.prog 30 #[.agg #[.int .i64 id, .int .i64 nodes, .slice A n c], .int .i64 k, .slice lA ln lc] w fun e w' => ∃ vr vf, e = .returned (.tuple #[.agg #[.int .i64 id, .int .i64 nodes, vr], vf]) ∧ OwnQ w' (w.heap.size + 2) vr (wantQ k rows L).1 ∧ OwnQ w' (w.heap.size + 2) vf (wantQ k rows L).2 ∧ Below w.heap.size w w' := by
  have HL := Lib.hid hl
  have HLL := Lib.hid hL
  have HN := Lib.hid hl.1
  have HLN := Lib.hid hL.1
  have HW : Hid (∀ M, WantI k (wantQ k rows M)) := Lib.hid (fun M => WantI.want hs (by rw [hl.1]; exact hn) ht M)
  have HS := Lib.hid hs
  clear hl hL hs ht
  go_enter Try.func30, Try.ntmps30
  go_upto_region 2 with fail
  refine wp_two (fun W0 hW0 => ?_)
  have hb0 : Below w.heap.size w W0 := by rw [hW0]; (repeat (first | (with_reducible exact Below.refl _ _) | (with_reducible assumption) | (with_reducible apply bel_alloc) | (with_reducible apply bel_drew) | (with_reducible apply bel_drewN) | (with_reducible refine bel_trans ?_ (by with_reducible assumption)) | (with_reducible refine bel_trans ?_ (HF.out _)) | (with_reducible refine bel_set ?_ (by simp) _) | (with_reducible refine bel_set ?_ (by simp; omega) _) | (with_reducible refine bel_set ?_ (by omega) _)))
  have hs0 : W0.heap.size = w.heap.size + 2 := by rw [hW0]; simp
  have HF0 : Hid (BoxR W0 w.heap.size [.int .i64 id, .int .i64 nodes, .slice A n c] ∧ Blk W0 w.heap.size 24 [.int .i64 id, .int .i64 nodes, .slice A n c] ∧ Blk W0 (w.heap.size + 1) 24 [.int .i64 0, .int .i64 0, .slice none 0 0]) := Lib.hid (by
    rw [hW0]
    have h1 : Blk (w.alloc (.cells #[.int .i64 id, .int .i64 nodes, .slice A n c] 24)) w.heap.size 24 [.int .i64 id, .int .i64 nodes, .slice A n c] := Blk.new _ 24 [.int .i64 id, .int .i64 nodes, .slice A n c]
    have h2 := h1.up (bel_alloc (Below.refl _ _) : Below _ _ ((w.alloc (.cells #[.int .i64 id, .int .i64 nodes, .slice A n c] 24)).alloc (.cells #[.int .i64 0, .int .i64 0, .slice none 0 0] 24)))
    have h3 := Blk.new (w.alloc (.cells #[.int .i64 id, .int .i64 nodes, .slice A n c] 24)) 24 [.int .i64 0, .int .i64 0, .slice none 0 0]
    exact ⟨h2.box, h2, by simpa using h3⟩)
  clear hW0
  obtain ⟨B, hB⟩ : ∃ B, w.heap.size + 2 = B := ⟨_, rfl⟩
  have xl := HF0.out.1.1
  have x_0 := (HF0.out.1).2 0 _ rfl; have x_1 := (HF0.out.1).2 1 _ rfl; have x_2 := (HF0.out.1).2 2 _ rfl
  go_upto_region 3 with (go_at_call 44; refine (clone_Rows A n c rows _ (HL.out.up hb0) (by omega)).mono ?_; rintro e w1 ⟨v1, rfl, hown1, hb1⟩; obtain ⟨rA, rc, rfl, -, -, -⟩ := hown1.rows (by rw [HN.out]; omega))
  have HR1 : Hid (OwnQ w1 B (.slice rA rows.length rc) rows) := Lib.hid (hown1.mono (by omega))
  have hb01 := bel_trans hb0 hb1
  have HF1 := Lib.hid (HF0.out.2.1.up hb1)
  have HG1 := Lib.hid (HF0.out.2.2.up hb1)
  have hwB1 : B ≤ w1.heap.size := by have := hb1.size; omega
  clear hown1 hb1 hb0 HF0 xl x_0 x_1 x_2 hs0
  go_wp2_with fail
  go_loopw [8, 9, 20] (fun s8 s9 jx wr => ∃ (j : Nat) (U : List FRowD) (rA : Option Addr) (rn rc : Nat), j ≤ ln ∧ jx = .int .i64 j ∧ s9 = .slice rA rn rc ∧ Hid (U.Perm (wantQ k rows (L.take j)).2) ∧ Hid (OwnQ wr B s8 U) ∧ Hid (OwnQ wr B (.slice rA rn rc) (wantQ k rows (L.take j)).1) ∧ Hid (ApQ s8 (.slice rA rn rc)) ∧ Hid ((wantQ k rows (L.take j)).1.length = rn) ∧ Below B w1 wr) (fun _ _ jx _ => ln - (intOf jx).toNat)
  case atStart => exact ⟨0, [], rA, _, rc, Nat.zero_le _, rfl, rfl, Lib.hid (List.Perm.refl _), Lib.hid (OwnQ.nil _ _), HR1, Lib.hid (fun g e => by cases e), Lib.hid rfl, Below.refl _ _⟩
  case round =>
    clear HR1
    obtain ⟨j, U, rA, rn, rc, hj, rfl, rfl, HU, HO8, HO9, HAP, HRN, hbw⟩ := hrel
    (obtain ⟨wk, hwk⟩ : ∃ x, x = wr := ⟨_, rfl⟩); subst hwk
    have hbk : Below w.heap.size w wk := hb01.trans (hbw.mono (by omega))
    have hBk : B ≤ wk.heap.size := Nat.le_trans hwB1 hbw.size
    by_cases hlt : j < ln
    · obtain ⟨lb, lo, rfl, hlb, hlx⟩ := (HLL.out.up hbk).2.2 (by omega)
      have l0 := hlx j hlt
      clear hlx
      obtain ⟨d, hd⟩ : ∃ d, nth L j = d := ⟨_, rfl⟩
      rw [hd] at l0
      obtain ⟨⟨R, F⟩, hRF⟩ : ∃ S, wantQ k rows (L.take j) = S := ⟨_, rfl⟩
      have hst := wantQ_snoc k rows L j (by rw [HLN.out]; exact hlt)
      rw [hd, hRF] at hst
      have HST := Lib.hid hst
      have HWI : Hid (WantI k (R, F)) := Lib.hid (by rw [← hRF]; exact HW.out _)
      rw [hRF] at HU HO9 HRN
      have hrn : rn ≤ 64 := by rw [← HRN.out]; exact HWI.out.l1
      clear hst hd hRF
      obtain ⟨p, hp⟩ : ∃ p, posQ k d R = p := ⟨_, rfl⟩
      obtain ⟨y, hy⟩ : ∃ y, hereQ k d R = y := ⟨_, rfl⟩
      have hpn : p ≤ rn := by have h1 := (posQ_spec k d R).1; rw [hp, show R.length = rn from HRN.out] at h1; exact h1
      have HP := Lib.hid hp
      have HY := Lib.hid hy
      clear hp hy
      have hlR : RowsR wk rA rn R := by obtain ⟨A', c', e', h', -, -⟩ := HO9.out.rows (by rw [show R.length = rn from HRN.out]; omega); rw [show R.length = rn from HRN.out] at e' h'; injection e' with e1 e2 e3; subst e1; exact h'
      have HLR := Lib.hid hlR
      clear hlR
      go_upto_region 7 with fail
      refine wp_two (fun WB hWB => ?_)
      have hbB : Below wk.heap.size wk WB := by rw [hWB]; (repeat (first | (with_reducible exact Below.refl _ _) | (with_reducible assumption) | (with_reducible apply bel_alloc) | (with_reducible apply bel_drew) | (with_reducible apply bel_drewN) | (with_reducible refine bel_trans ?_ (by with_reducible assumption)) | (with_reducible refine bel_trans ?_ (HF.out _)) | (with_reducible refine bel_set ?_ (by simp) _) | (with_reducible refine bel_set ?_ (by simp; omega) _) | (with_reducible refine bel_set ?_ (by omega) _)))
      have HZ : Hid (Blk WB wk.heap.size 55 [.int .i64 k, .int .i64 d, .int .i64 0, .int .i64 0]) := Lib.hid (by rw [hWB]; exact Blk.new wk 55 [.int .i64 k, .int .i64 d, .int .i64 0, .int .i64 0])
      obtain ⟨gb, hgb⟩ : ∃ g, wk.heap.size = g := ⟨_, rfl⟩
      rw [hgb] at HZ ⊢
      clear hWB
      have zl := HZ.out.lt
      have z_0 := (HZ.out.box).2 0 _ rfl; have z_1 := (HZ.out.box).2 1 _ rfl; have z_2 := (HZ.out.box).2 2 _ rfl; have z_3 := (HZ.out.box).2 3 _ rfl
      cases y
      case true =>
        go_wp2_with (go_at_call 41; refine (slices_BSF_Q rA rn rc R ⟨k, d, 0, 0⟩ p true _ (HLR.out.up hbB) HWI.out.s1 (by omega) HP.out HY.out).mono ?_; rintro e w5 ⟨rfl, hb5⟩; have hb5k := bel_trans hbB hb5; clear zl z_0 z_1 z_2 z_3)
        have HEQ : Hid (stepQ k (R, F) d = (R, F)) := Lib.hid (by unfold stepQ; rw [if_pos (.inl HY.out)])
        (first | (go_round; (case rel => exact ⟨j + 1, U, rA, rn, rc, by omega, by go_num, rfl, Lib.hid (by rw [HST.out, HEQ.out]; exact HU.out), Lib.hid (HO8.out.up hb5k), Lib.hid (by rw [HST.out, HEQ.out]; exact HO9.out.up hb5k), HAP, Lib.hid (by rw [HST.out, HEQ.out]; exact HRN.out), hbw.trans (hb5k.mono hBk)⟩); (case measure => (simp [intOf] <;> omega))) | (go_roundw; (case rel => exact ⟨j + 1, U, rA, rn, rc, by omega, by go_num, rfl, Lib.hid (by rw [HST.out, HEQ.out]; exact HU.out), Lib.hid (HO8.out.up hb5k), Lib.hid (by rw [HST.out, HEQ.out]; exact HO9.out.up hb5k), HAP, Lib.hid (by rw [HST.out, HEQ.out]; exact HRN.out), hbw.trans (hb5k.mono hBk)⟩); (case measure => (simp [intOf] <;> omega))) | (refine ⟨?_, by simp [intOf] <;> omega⟩; (repeat apply Exists.intro); refine ⟨?rel, ?fr⟩; (case fr => ((repeat' apply And.intro) <;> rfl)); (case rel => exact ⟨j + 1, U, rA, rn, rc, by omega, by go_num, rfl, Lib.hid (by rw [HST.out, HEQ.out]; exact HU.out), Lib.hid (HO8.out.up hb5k), Lib.hid (by rw [HST.out, HEQ.out]; exact HO9.out.up hb5k), HAP, Lib.hid (by rw [HST.out, HEQ.out]; exact HRN.out), hbw.trans (hb5k.mono hBk)⟩)))
      case false =>
      by_cases h64 : rn < 64
      case neg =>
        have q1 : decide ((rn : Int) < 64) = false := by simp; omega
        go_wp2_with (go_at_call 41; refine (slices_BSF_Q rA rn rc R ⟨k, d, 0, 0⟩ p false _ (HLR.out.up hbB) HWI.out.s1 (by omega) HP.out HY.out).mono ?_; rintro e w5 ⟨rfl, hb5⟩; have hb5k := bel_trans hbB hb5; clear zl z_0 z_1 z_2 z_3)
        have HEQ : Hid (stepQ k (R, F) d = (R, F)) := Lib.hid (by unfold stepQ; rw [if_pos (.inr (by rw [show (R, F).1.length = rn from HRN.out]; omega))])
        (first | (go_round; (case rel => exact ⟨j + 1, U, rA, rn, rc, by omega, by go_num, rfl, Lib.hid (by rw [HST.out, HEQ.out]; exact HU.out), Lib.hid (HO8.out.up hb5k), Lib.hid (by rw [HST.out, HEQ.out]; exact HO9.out.up hb5k), HAP, Lib.hid (by rw [HST.out, HEQ.out]; exact HRN.out), hbw.trans (hb5k.mono hBk)⟩); (case measure => (simp [intOf] <;> omega))) | (go_roundw; (case rel => exact ⟨j + 1, U, rA, rn, rc, by omega, by go_num, rfl, Lib.hid (by rw [HST.out, HEQ.out]; exact HU.out), Lib.hid (HO8.out.up hb5k), Lib.hid (by rw [HST.out, HEQ.out]; exact HO9.out.up hb5k), HAP, Lib.hid (by rw [HST.out, HEQ.out]; exact HRN.out), hbw.trans (hb5k.mono hBk)⟩); (case measure => (simp [intOf] <;> omega))) | (refine ⟨?_, by simp [intOf] <;> omega⟩; (repeat apply Exists.intro); refine ⟨?rel, ?fr⟩; (case fr => ((repeat' apply And.intro) <;> rfl)); (case rel => exact ⟨j + 1, U, rA, rn, rc, by omega, by go_num, rfl, Lib.hid (by rw [HST.out, HEQ.out]; exact HU.out), Lib.hid (HO8.out.up hb5k), Lib.hid (by rw [HST.out, HEQ.out]; exact HO9.out.up hb5k), HAP, Lib.hid (by rw [HST.out, HEQ.out]; exact HRN.out), hbw.trans (hb5k.mono hBk)⟩)))
      case pos =>
      have q1 : decide ((rn : Int) < 64) = true := by simp; omega
      have HEQ : Hid (stepQ k (R, F) d = (insQ ⟨k, d, 0, 0⟩ R, insQ ⟨k, d, 0, 0⟩ F)) := Lib.hid (by unfold stepQ; rw [if_neg (fun g => g.elim (fun g => by rw [HY.out] at g; cases g) (fun g => by rw [show (R, F).1.length = rn from HRN.out] at g; omega))])
      go_upto_region 9 with (go_at_call 41; refine (slices_BSF_Q rA rn rc R ⟨k, d, 0, 0⟩ p false _ (HLR.out.up hbB) HWI.out.s1 (by omega) HP.out HY.out).mono ?_; rintro e w5 ⟨rfl, hb5⟩; have hb5k := bel_trans hbB hb5; clear zl z_0 z_1 z_2 z_3; have hz5 := HZ.out.up hb5; have zl := hz5.lt; have z_0 := (hz5.box).2 0 _ rfl; have z_1 := (hz5.box).2 1 _ rfl; have z_2 := (hz5.box).2 2 _ rfl; have z_3 := (hz5.box).2 3 _ rfl; clear hz5)
      have hgk : gb ≤ wk.heap.size := by omega
      have HZ5 := Lib.hid (HZ.out.up hb5)
      have HO85 := Lib.hid (HO8.out.up hb5k)
      have HO95 := Lib.hid (HO9.out.up hb5k)
      have hbw5 := hbw.trans (hb5k.mono hBk)
      have hB5 : B ≤ w5.heap.size := Nat.le_trans hBk hb5k.size
      have hne9 : ∀ g, (Value.slice rA rn rc).ownBlock = some g → g < wk.heap.size := fun g e => (own_lt HO9.out g e).2
      skip
      have HNE9 := Lib.hid hne9
      clear hne9 hb5k hb5 hbB HZ HO8 HO9 HLR
      go_wp2_with fail
      refine (slices_Insert_Row _ B (.slice rA rn rc) rn p (flat encQ R) (encQ ⟨k, d, 0, 0⟩) w5.heap.size (by have h9 := (HO95.out.up (bel_alloc (Below.refl _ _) : Below _ _ (w5.alloc (.cells #[.int .i64 k, .int .i64 d, .int .i64 0, .int .i64 0] 55)))); unfold OwnQ at h9; rw [show R.length = rn from HRN.out] at h9; exact h9) hpn (by omega) (Blk.new w5 55 (encQ ⟨k, d, 0, 0⟩)) (fun e => by have := (own_lt HO95.out _ e).2; omega) (flat_oneCell encQ_one R) (encQ_one _) rfl (le_alloc hB5)).mono ?_
      rintro e w6 ⟨v6, rfl, hown6, hb6, hg6, hat6⟩
      obtain ⟨sA, sc, rfl, -, -, -, -⟩ := own_row hown6 (by omega)
      clear zl z_0 z_1 z_2 z_3
      have hz6 : Blk w6 gb 55 [.int .i64 k, .int .i64 d, .int .i64 0, .int .i64 0] := Blk.apart (B := 0) (HZ5.out.up (bel_alloc (Below.refl _ _))) hg6 (fun e => by have := HNE9.out _ e; omega)
      have zl := hz6.lt
      have z_0 := (hz6.box).2 0 _ rfl; have z_1 := (hz6.box).2 1 _ rfl; have z_2 := (hz6.box).2 2 _ rfl; have z_3 := (hz6.box).2 3 _ rfl
      clear hz6
      have HI6 : Hid (OwnQ w6 B (.slice sA (rn + 1) sc) (insQ ⟨k, d, 0, 0⟩ R)) := Lib.hid (by unfold OwnQ; rw [insQ_len, show R.length = rn from HRN.out]; unfold insQ; rw [show posQ (FRowD.mk k d 0 0).ki (FRowD.mk k d 0 0).di R = p from HP.out, ← flat_insQ]; exact hown6)
      have HO86 := Lib.hid ((HO85.out.up (bel_alloc (Below.refl _ _) : Below _ _ (w5.alloc (.cells #[.int .i64 k, .int .i64 d, .int .i64 0, .int .i64 0] 55)))).apart hg6 HAP.out)
      have HAT : Hid (∀ g, (Value.slice sA (rn + 1) sc).ownBlock = some g → (Value.slice rA rn rc).ownBlock = some g ∨ g = w5.heap.size + 1) := Lib.hid (fun g e => hat6.elim (fun h => .inl (by rw [← h]; exact e)) (fun h => .inr (by rw [h] at e; injection e with e; rw [← e]; simp)))
      have HAP6 := Lib.hid (ApQ.moved HAP.out HAT.out (fun g e => Nat.lt_succ_of_lt (own_lt HO85.out g e).2))
      have hs56 : w5.heap.size + 1 ≤ w6.heap.size := by have h1 := hg6.size; simpa using h1
      have hB6 : B ≤ w6.heap.size := by omega
      have hbw6 : Below B w1 w6 := hbw5.trans (Below.trans ((bel_alloc (Below.refl _ _) : Below w5.heap.size w5 (w5.alloc (.cells #[.int .i64 k, .int .i64 d, .int .i64 0, .int .i64 0] 55))).mono hB5) hb6)
      clear hown6 hb6 hg6 hat6 HZ5 HO85 HO95
      go_wp2_with (at_builtin; refine wpList_appQ rfl (.tmp 45) (.tmp 47) rfl rfl B _ U rfl (HO86.out.up (bel_alloc (Below.refl _ _))) w6.heap.size 0 1 1 [⟨k, d, 0, 0⟩] rfl rfl (box_Q (BoxR.new w6 (encQ ⟨k, d, 0, 0⟩) 55)) (by (have h1 := HU.out.length_eq); (have h2 := HWI.out.l2); (have h3 : (R, F).1.length = rn := HRN.out); simp at *; omega) (le_alloc hB6) ?_; intro v7 w7 hown7 hg7 hb7 hat7)
      have HI7 := Lib.hid ((HI6.out.up (bel_alloc (Below.refl _ _) : Below _ _ (w6.alloc (.cells #[.int .i64 k, .int .i64 d, .int .i64 0, .int .i64 0] 55)))).apart hg7 HAP6.out.symm)
      have HAP7 : Hid (ApQ v7 (.slice sA (rn + 1) sc)) := Lib.hid (fun g e e2 => hat7.elim (fun h => HAP6.out g (h.symm.trans e) e2) (fun h => by rw [h] at e; injection e with e; have := (own_lt HI6.out g e2).2; rw [← e, World.size_alloc] at this; omega))
      (first | (go_round; (case rel => exact ⟨j + 1, U ++ [⟨k, d, 0, 0⟩], sA, rn + 1, sc, by omega, by go_num, rfl, Lib.hid (by rw [HST.out, HEQ.out]; exact ((List.perm_append_comm.trans (List.Perm.cons _ HU.out)).trans (insQ_perm _ _).symm)), Lib.hid hown7, Lib.hid (by rw [HST.out, HEQ.out]; exact HI7.out), HAP7, Lib.hid (by rw [HST.out, HEQ.out]; show (insQ _ R).length = _; rw [insQ_len, show R.length = rn from HRN.out]), hbw6.trans (Below.trans ((bel_alloc (Below.refl _ _)).mono hB6) hb7)⟩); (case measure => (simp [intOf] <;> omega))) | (go_roundw; (case rel => exact ⟨j + 1, U ++ [⟨k, d, 0, 0⟩], sA, rn + 1, sc, by omega, by go_num, rfl, Lib.hid (by rw [HST.out, HEQ.out]; exact ((List.perm_append_comm.trans (List.Perm.cons _ HU.out)).trans (insQ_perm _ _).symm)), Lib.hid hown7, Lib.hid (by rw [HST.out, HEQ.out]; exact HI7.out), HAP7, Lib.hid (by rw [HST.out, HEQ.out]; show (insQ _ R).length = _; rw [insQ_len, show R.length = rn from HRN.out]), hbw6.trans (Below.trans ((bel_alloc (Below.refl _ _)).mono hB6) hb7)⟩); (case measure => (simp [intOf] <;> omega))) | (refine ⟨?_, by simp [intOf] <;> omega⟩; (repeat apply Exists.intro); refine ⟨?rel, ?fr⟩; (case fr => ((repeat' apply And.intro) <;> rfl)); (case rel => exact ⟨j + 1, U ++ [⟨k, d, 0, 0⟩], sA, rn + 1, sc, by omega, by go_num, rfl, Lib.hid (by rw [HST.out, HEQ.out]; exact ((List.perm_append_comm.trans (List.Perm.cons _ HU.out)).trans (insQ_perm _ _).symm)), Lib.hid hown7, Lib.hid (by rw [HST.out, HEQ.out]; exact HI7.out), HAP7, Lib.hid (by rw [HST.out, HEQ.out]; show (insQ _ R).length = _; rw [insQ_len, show R.length = rn from HRN.out]), hbw6.trans (Below.trans ((bel_alloc (Below.refl _ _)).mono hB6) hb7)⟩)))
    · obtain rfl : ln = j := by omega
      rw [List.take_of_length_le (by rw [HLN.out]; exact Nat.le_refl _)] at HU HO9 HRN
      have hf := (HF1.out.up (Below.refl _ _))
      have hbB1 : ∀ g, g < B → ∀ o, wk.cell? ⟨g, o, none⟩ = w1.cell? ⟨g, o, none⟩ := fun g hg o => hbw.cell (p := ⟨g, o, none⟩) hg
      have HFK : Hid (Blk wk w.heap.size 24 [.int .i64 id, .int .i64 nodes, .slice A n c]) := Lib.hid ((hbw.block _ (by omega)).trans HF1.out)
      have HGK : Hid (Blk wk (w.heap.size + 1) 24 [.int .i64 0, .int .i64 0, .slice none 0 0]) := Lib.hid ((hbw.block _ (by omega)).trans HG1.out)
      have fl := HFK.out.lt
      have ff := HFK.out.frozen
      have f_0 := (HFK.out.box).2 0 _ rfl; have f_1 := (HFK.out.box).2 1 _ rfl; have f_2 := (HFK.out.box).2 2 _ rfl
      clear hf hbB1
      go_upto_region 13 with fail
      refine wp_two (fun WS hWS => ?_)
      have HFS : Hid (Blk WS w.heap.size 24 [.int .i64 id, .int .i64 nodes, .slice rA rn rc]) := Lib.hid (by rw [hWS]; exact HFK.out.set_ 2 _)
      have HGS : Hid (Blk WS (w.heap.size + 1) 24 [.int .i64 0, .int .i64 0, .slice none 0 0]) := Lib.hid (by rw [hWS]; exact HGK.out.far (p := ⟨w.heap.size, 2, none⟩) (by show w.heap.size + 1 ≠ w.heap.size; omega) _)
      have HOS : Hid (OwnQ WS B _ U) := Lib.hid (by rw [hWS]; exact HO8.out.set3 (by omega) _)
      have HRS : Hid (OwnQ WS B (.slice rA rn rc) (wantQ k rows L).1) := Lib.hid (by rw [hWS]; exact HO9.out.set3 (by omega) _)
      have hbS : Below w.heap.size w WS := by rw [hWS]; exact bel_set3 hbk (by omega)
      have hBs : B ≤ WS.heap.size := by rw [hWS]; simpa using hBk
      clear hWS fl ff f_0 f_1 f_2 HFK HGK
      go_upto_region 14 with (go_at_call 61; refine (sort_Q _ B _ U HOS.out (by (have h1 := HU.out.length_eq); (have h2 := (HW.out L).l2); (have h3 := (HW.out L).l1); omega) hBs).mono ?_; rintro e w8 ⟨rfl, U2, hp8, hs8, hown8, hb8, hg8⟩)
      have hU2 : U2 = (wantQ k rows L).2 := sort_same (hp8.trans HU.out) (HW.out L).s2 hs8
      subst hU2
      have HR8 := Lib.hid (HRS.out.apart hg8 HAP.out.symm)
      have HF8 : Hid (Blk w8 w.heap.size 24 [.int .i64 id, .int .i64 nodes, .slice rA rn rc]) := Lib.hid ((hb8.block _ (by omega)).trans HFS.out)
      have HG8 : Hid (Blk w8 (w.heap.size + 1) 24 [.int .i64 0, .int .i64 0, .slice none 0 0]) := Lib.hid ((hb8.block _ (by omega)).trans HGS.out)
      have hl2 : (wantQ k rows L).2.length ≤ 64 := Nat.le_trans (HW.out L).l2 (HW.out L).l1
      obtain ⟨fA, fc, e8, -, -, -⟩ := hown8.rows (by omega)
      subst e8
      have HO88 := Lib.hid hown8
      have hb8w := hbS.trans (hb8.mono (by omega))
      have fl := HF8.out.lt
      have f_0 := (HF8.out.box).2 0 _ rfl; have f_1 := (HF8.out.box).2 1 _ rfl; have f_2 := (HF8.out.box).2 2 _ rfl
      have hgl := HG8.out.lt
      have hgf := HG8.out.frozen
      have g_0 := (HG8.out.box).2 0 _ rfl; have g_1 := (HG8.out.box).2 1 _ rfl; have g_2 := (HG8.out.box).2 2 _ rfl
      clear hown8 hb8 hg8 hp8 hs8
      go_wp2_with fail
      refine bodyPost_ret (v := .tuple #[.agg #[.int .i64 id, .int .i64 nodes, .slice rA rn rc], .slice fA (wantQ k rows L).2.length fc]) (by simp [results, Try.results30, go_sem, g_0, g_1, g_2]) rfl ⟨_, _, rfl, ?_, ?_, ?_⟩
      · exact OwnQ.set3 (OwnQ.set3 (OwnQ.set3 (by rw [hB]; exact HR8.out) (by omega) _) (by omega) _) (by omega) _
      · exact OwnQ.set3 (OwnQ.set3 (OwnQ.set3 (by rw [hB]; exact HO88.out) (by omega) _) (by omega) _) (by omega) _
      · exact bel_set3 (bel_set3 (bel_set3 hb8w (by omega)) (by omega)) (by omega)
end Go.Proofs.Ytnngeaibdnnpoaa
