/- The law OrderDone: the walk. -/
import Derived.Test.YthpljlffjbodpaaPd
import Derived.Test.YthpljlffjbodpaaLo
namespace Go.Proofs.Ythpljlffjbodpaa
open Go.RowKit
set_option linter.unusedSimpArgs false
set_option linter.unusedVariables false

structure DoneF (L : List Int) (B k : Nat) (va vs vr : Value) (A S : List Int) (w : World) : Prop where
  oa : OwnI w B va A
  ra : Rises A
  ta : Told L (fun _ => true) k A
  la : A.length ≤ k
  os : OwnI w B vs S
  rs : Rises S
  ts : Told L (fun j => decide (j % 3 = 1)) k S
  ls : S.length ≤ k
  or : OwnI w B vr (restL L k)
  sa : Sep va vr
  ss : Sep vs vr
theorem order_OrderAt (A : Option Addr) (n c : Nat) (D : DagD) (a : Int) (dA : Option Addr) (dn dc : Nat) (done : List Int) (L : List Int) (y : Int) (w : World) (hl : CertsR w A n D.certs) (hd : IntsR w dA dn done) (hdn : dn ≤ 1000000000) (hL : orderB D a done = L) (hy : orderE D a done = y) :
    Calls Try.prog 33 #[.agg #[.int .i64 D.nodes, .int .i64 D.low, .slice A n c], .int .i64 a, .slice dA dn dc] w fun e w' => ∃ v, e = .returned (.tuple #[v, .int .i64 y]) ∧ OwnI w' w.heap.size v L ∧ Below w.heap.size w w' := hL ▸ hy ▸ order_Order A n c D a dA dn dc done w hl hd hdn
set_option maxRecDepth 100000 in
set_option maxHeartbeats 8000000 in
theorem law_OrderDone (A : Option Addr) (n c : Nat) (D : DagD) (iA : Option Addr) (im ic : Nat) (Is : List Int) (lA : Option Addr) (lm lc : Nat) (Lo : List Int) (w : World) (hl : CertsR w A n D.certs) (hi : IntsR w iA im Is) (hL : IntsR w lA lm Lo) (hS : Small D.certs) :
    Calls Try.prog 9 #[.agg #[.int .i64 D.nodes, .int .i64 D.low, .slice A n c, .slice iA im ic, .slice lA lm lc]] w fun e w' => e = .returned (.bool true) ∧ Below w.heap.size w w' := by
  have HL := Lib.hid hl
  have HN := Lib.hid hl.1
  have HI := Lib.hid hi
  have HS := Lib.hid hS
  clear hl hi hL hS
  go_enter Try.func9, Try.ntmps9
  go_wp2_with fail
  refine (law17_heavy' _ _ _ _ _ D.certs _ _ _ _ _ _ _ (HL.out.up (by (repeat (first | (with_reducible exact Below.refl _ _) | (with_reducible assumption) | (with_reducible apply bel_alloc) | (with_reducible apply bel_drew) | (with_reducible apply bel_drewN) | (with_reducible refine bel_trans ?_ (by with_reducible assumption)) | (with_reducible refine bel_trans ?_ (HF.out _)) | (with_reducible refine bel_set ?_ (by simp) _) | (with_reducible refine bel_set ?_ (by simp; omega) _) | (with_reducible refine bel_set ?_ (by omega) _))))) HS.out).mono ?_
  rintro e w1 ⟨⟨x, rfl, hx⟩, hb1⟩
  have hz_w1 : w.heap.size + 1 ≤ w1.heap.size := (by have hq := (hb1).size; (try simp at hq); omega); have hc0_w1 := fun o => (bcell hb1).1 (w.heap.size) o (by first | (simp; done) | (simp; omega) | omega)
  cases x
  case true =>
    clear hx
    go_wp2_with fail
    go_ret
    exact ⟨rfl, by (repeat (first | (with_reducible exact Below.refl _ _) | (with_reducible assumption) | (with_reducible apply bel_alloc) | (with_reducible apply bel_drew) | (with_reducible apply bel_drewN) | (with_reducible refine bel_trans ?_ (by with_reducible assumption)) | (with_reducible refine bel_trans ?_ (HF.out _)) | (with_reducible refine bel_set ?_ (by simp) _) | (with_reducible refine bel_set ?_ (by simp; omega) _) | (with_reducible refine bel_set ?_ (by omega) _)))⟩
  case false =>
    obtain ⟨hLi, him, hlm⟩ := hx rfl
    clear hx hLi
    go_wp2_with fail
    refine (ref14_May A n c D _ (HL.out.up (by (repeat (first | (with_reducible exact Below.refl _ _) | (with_reducible assumption) | (with_reducible apply bel_alloc) | (with_reducible apply bel_drew) | (with_reducible apply bel_drewN) | (with_reducible refine bel_trans ?_ (by with_reducible assumption)) | (with_reducible refine bel_trans ?_ (HF.out _)) | (with_reducible refine bel_set ?_ (by simp) _) | (with_reducible refine bel_set ?_ (by simp; omega) _) | (with_reducible refine bel_set ?_ (by omega) _)))))).mono ?_
    rintro e w2 ⟨rfl, hb2⟩
    rw [may_eq]
    have hB2 : BoxR w2 w.heap.size [.int .i64 D.nodes, .int .i64 D.low, .slice A n c, .slice iA im ic, .slice lA lm lc] := ((BoxR.new w [.int .i64 D.nodes, .int .i64 D.low, .slice A n c, .slice iA im ic, .slice lA lm lc] 52).up hb1).up hb2
    have hbw2 : Below w.heap.size w w2 := by (repeat (first | (with_reducible exact Below.refl _ _) | (with_reducible assumption) | (with_reducible apply bel_alloc) | (with_reducible apply bel_drew) | (with_reducible apply bel_drewN) | (with_reducible refine bel_trans ?_ (by with_reducible assumption)) | (with_reducible refine bel_trans ?_ (HF.out _)) | (with_reducible refine bel_set ?_ (by simp) _) | (with_reducible refine bel_set ?_ (by simp; omega) _) | (with_reducible refine bel_set ?_ (by omega) _)))
    clear hc0_w1 hz_w1
    have b_0 := (hB2).2 0 _ rfl; have b_1 := (hB2).2 1 _ rfl; have b_2 := (hB2).2 2 _ rfl; have b_3 := (hB2).2 3 _ rfl; have b_4 := (hB2).2 4 _ rfl
    cases hm : mayS D
    case false =>
      go_wp2_with fail
      go_ret
      exact ⟨rfl, hbw2⟩
    case true =>
      have HM := Lib.hid hm
      clear hm
      go_wp2_with fail
      go_loopw [3] (fun ix wr => ∃ i : Nat, i ≤ im ∧ ix = .int .i64 i ∧ Below w2.heap.size w2 wr) (fun ix _ => im - (intOf ix).toNat)
      case atStart => exact ⟨0, Nat.zero_le _, rfl, Below.refl _ _⟩
      case round =>
        clear b_0 b_1 b_2 b_3 b_4
        obtain ⟨i, hi, rfl, hby⟩ := hrel
        (obtain ⟨wk, hwk⟩ : ∃ x, x = wr := ⟨_, rfl⟩); subst hwk
        have hBk := hB2.up hby
        have hbwk : Below w.heap.size w wk := bel_trans hbw2 hby
        have b_0 := (hBk).2 0 _ rfl; have b_1 := (hBk).2 1 _ rfl; have b_2 := (hBk).2 2 _ rfl; have b_3 := (hBk).2 3 _ rfl; have b_4 := (hBk).2 4 _ rfl
        by_cases hlt : i < im
        · obtain ⟨ib, ioff, rfl, hib, hic⟩ := HI.out.2.2 (by omega)
          obtain ⟨di, hdi⟩ : ∃ di, di = nth Is i := ⟨_, rfl⟩
          have hcells : ∀ X, Below wk.heap.size wk X → X.cell? ⟨w.heap.size, 0, none⟩ = some (.int .i64 D.nodes) ∧ X.cell? ⟨w.heap.size, 1, none⟩ = some (.int .i64 D.low) ∧ X.cell? ⟨w.heap.size, 2, none⟩ = some (.slice A n c) ∧ X.cell? ⟨w.heap.size, 3, none⟩ = some (.slice (some ⟨ib, ioff, none⟩) im ic) ∧ X.cell? ⟨w.heap.size, 4, none⟩ = some (.slice lA lm lc) ∧ X.cell? ⟨ib, ioff + i, none⟩ = some (.int .i64 di) := fun X hX => by
            have hbX := bel_trans hbwk hX
            exact ⟨(hBk.up hX).2 0 _ rfl, (hBk.up hX).2 1 _ rfl, (hBk.up hX).2 2 _ rfl, (hBk.up hX).2 3 _ rfl, (hBk.up hX).2 4 _ rfl, by rw [hdi]; exact (hbX.cell (p := ⟨ib, ioff + i, none⟩) hib).trans (hic i hlt)⟩
          have HC := Lib.hid hcells
          clear hcells hic hdi
          have hg0 : w.heap.size < wk.heap.size := hBk.1
          obtain ⟨L, hLL⟩ : ∃ L, orderB D di [] = L := ⟨_, rfl⟩
          obtain ⟨ce, hce⟩ : ∃ ce, orderE D di [] = ce := ⟨_, rfl⟩
          have hlen : L.length ≤ 65536 := by rw [← hLL]; exact orderB_len _ _ _
          have hap : ∀ i j, i < j → j < L.length → nth L i ≠ nth L j := by rw [← hLL]; exact fun i j h1 h2 => orderB_apart HM.out h1 h2
          have HLL := Lib.hid hLL
          have HCE := Lib.hid hce
          have HAP := Lib.hid hap
          clear hLL hce hap
          go_wp2_with fail
          go_region_held3 (fun X => X.cell? ⟨w.heap.size, 0, none⟩ = some (.int .i64 D.nodes) ∧ X.cell? ⟨w.heap.size, 1, none⟩ = some (.int .i64 D.low) ∧ X.cell? ⟨w.heap.size, 2, none⟩ = some (.slice A n c) ∧ X.cell? ⟨w.heap.size, 3, none⟩ = some (.slice (some ⟨ib, ioff, none⟩) im ic) ∧ X.cell? ⟨w.heap.size, 4, none⟩ = some (.slice lA lm lc) ∧ X.cell? ⟨ib, ioff + i, none⟩ = some (.int .i64 di))
            (exact HC.out _ (by (repeat (first | (with_reducible exact Below.refl _ _) | (with_reducible assumption) | (with_reducible apply bel_alloc) | (with_reducible apply bel_drew) | (with_reducible apply bel_drewN) | (with_reducible refine bel_trans ?_ (by with_reducible assumption)) | (with_reducible refine bel_trans ?_ (HF.out _)) | (with_reducible refine bel_set ?_ (by simp) _) | (with_reducible refine bel_set ?_ (by simp; omega) _) | (with_reducible refine bel_set ?_ (by omega) _)))))
            ((go_at_call 33; refine (order_OrderAt _ _ _ D di none 0 0 [] L ce _ (HL.out.up (by (repeat (first | (with_reducible exact Below.refl _ _) | (with_reducible assumption) | (with_reducible apply bel_alloc) | (with_reducible apply bel_drew) | (with_reducible apply bel_drewN) | (with_reducible refine bel_trans ?_ (by with_reducible assumption)) | (with_reducible refine bel_trans ?_ (HF.out _)) | (with_reducible refine bel_set ?_ (by simp) _) | (with_reducible refine bel_set ?_ (by simp; omega) _) | (with_reducible refine bel_set ?_ (by omega) _))))) (IntsR.nil _ _) (by omega) HLL.out HCE.out).mono ?_; rintro e w5 ⟨v, rfl, hown, hb5⟩; obtain ⟨xA, xc, rfl, hint, _⟩ := hown.ints (by omega); have hb5k : Below wk.heap.size wk w5 := (by (repeat (first | (with_reducible exact Below.refl _ _) | (with_reducible assumption) | (with_reducible apply bel_alloc) | (with_reducible apply bel_drew) | (with_reducible apply bel_drewN) | (with_reducible refine bel_trans ?_ (by with_reducible assumption)) | (with_reducible refine bel_trans ?_ (HF.out _)) | (with_reducible refine bel_set ?_ (by simp) _) | (with_reducible refine bel_set ?_ (by simp; omega) _) | (with_reducible refine bel_set ?_ (by omega) _))))))
          have HINT := Lib.hid hint
          clear hint hown hb5 b_0 b_1 b_2 b_3 b_4
          by_cases hc0 : ce = 0
          case neg =>
            have hcb : (ce == 0) = false := by simpa using hc0
            go_wp2_with (go_at_call 34; refine (law17_num _ _).mono ?_; rintro e w' ⟨rfl, rfl⟩)
            (first | (go_round; (case rel => exact ⟨i + 1, by omega, by go_num, bel_trans hby hb5k⟩); (case measure => (simp [intOf] <;> omega))) | (go_roundw; (case rel => exact ⟨i + 1, by omega, by go_num, bel_trans hby hb5k⟩); (case measure => (simp [intOf] <;> omega))) | (refine ⟨?_, by simp [intOf] <;> omega⟩; (repeat apply Exists.intro); refine ⟨?rel, ?fr⟩; (case fr => ((repeat' apply And.intro) <;> rfl)); (case rel => exact ⟨i + 1, by omega, by go_num, bel_trans hby hb5k⟩)))
          case pos =>
            subst hc0
            go_wp2_with (go_at_call 34; refine (law17_num _ _).mono ?_; rintro e w' ⟨rfl, rfl⟩)
            go_loopw [6, 7, 8, 9] (fun va vs vr ij wr => ∃ j : Nat, j ≤ L.length ∧ ij = .int .i64 j ∧ ∃ (A' S' : List Int), DoneF L w5.heap.size j va vs vr A' S' wr ∧ Below w5.heap.size w5 wr) (fun _ _ _ ij _ => L.length - (intOf ij).toNat)
            case atStart => exact ⟨0, Nat.zero_le _, rfl, [], [], { oa := OwnI.nil _ _, ra := rises_nil, ta := told_zero _ _, la := Nat.le_refl _, os := OwnI.nil _ _, rs := rises_nil, ts := told_zero _ _, ls := Nat.le_refl _, or := OwnI.nil _ _, sa := sep_nil _, ss := sep_nil _ }, Below.refl _ _⟩
            case round =>
              obtain ⟨j, hj, rfl, A', S', hF, hbj⟩ := hrel
              (obtain ⟨wj, hwj⟩ : ∃ x, x = wr := ⟨_, rfl⟩); subst hwj
              have hbkj : Below wk.heap.size wk wj := bel_trans hb5k hbj
              have hsj := hbj.size
              have gla := hF.la
              have gls := hF.ls
              by_cases hlt3 : j < L.length
              · obtain ⟨xb, xoff, rfl, hxb, hxc⟩ := (HINT.out.up hbj).2.2 (by omega)
                obtain ⟨z, hzz⟩ : ∃ z, z = nth L j := ⟨_, rfl⟩
                have hxj := hxc j hlt3
                rw [← hzz] at hxj
                have HZ := Lib.hid hzz
                clear hxc hzz
                go_wp2_with fail
                refine (ref0_With _ A' z w5.heap.size _ hF.oa hF.ra (by omega) hsj).mono ?_
                rintro e wa ⟨va', A2, rfl, hoa, hra, hwa, hla, hba, hka⟩
                have hta := told_with hF.ta rfl (fun y => by rw [hwa y, HZ.out])
                have hsa := Sep.new hF.sa hF.or hka
                have hxa : wa.cell? ⟨xb, xoff + j, none⟩ = some (.int .i64 z) := (hba.cell (p := ⟨xb, xoff + j, none⟩) hxb).trans hxj
                have hsza := hba.size
                clear hxj
                by_cases h3 : j % 3 = 1
                · have h3i : (j : Int).tmod 3 = 1 := by rw [Int.tmod_eq_emod_of_nonneg (by omega)]; omega
                  have h3e : (j : Int) % 3 = 1 := by omega
                  go_wp2_with fail
                  refine (ref0_With _ S' z w5.heap.size _ (hF.os.up hba) hF.rs (by omega) (by omega)).mono ?_
                  rintro e wb ⟨vs', S2, rfl, hos, hrs, hws, hls, hbb, hkb⟩
                  have hts := told_with hF.ts (by simpa using h3) (fun y => by rw [hws y, HZ.out])
                  have hss := Sep.new hF.ss (hF.or.up hba) hkb
                  have hrr : restL L (j + 1) = restL L j := by rw [restL, if_pos h3]
                  go_wp2_with fail
                  (first | (go_round; (case rel => exact ⟨j + 1, by omega, by go_num, A2, S2, { oa := hoa.up hbb, ra := hra, ta := hta, la := by omega, os := hos, rs := hrs, ts := hts, ls := by omega, or := by rw [hrr]; exact (hF.or.up hba).up hbb, sa := hsa, ss := hss }, bel_trans (bel_trans hbj hba) hbb⟩); (case measure => (simp [intOf] <;> omega))) | (go_roundw; (case rel => exact ⟨j + 1, by omega, by go_num, A2, S2, { oa := hoa.up hbb, ra := hra, ta := hta, la := by omega, os := hos, rs := hrs, ts := hts, ls := by omega, or := by rw [hrr]; exact (hF.or.up hba).up hbb, sa := hsa, ss := hss }, bel_trans (bel_trans hbj hba) hbb⟩); (case measure => (simp [intOf] <;> omega))) | (refine ⟨?_, by simp [intOf] <;> omega⟩; (repeat apply Exists.intro); refine ⟨?rel, ?fr⟩; (case fr => ((repeat' apply And.intro) <;> rfl)); (case rel => exact ⟨j + 1, by omega, by go_num, A2, S2, { oa := hoa.up hbb, ra := hra, ta := hta, la := by omega, os := hos, rs := hrs, ts := hts, ls := by omega, or := by rw [hrr]; exact (hF.or.up hba).up hbb, sa := hsa, ss := hss }, bel_trans (bel_trans hbj hba) hbb⟩)))
                · have h3i : ¬ (j : Int).tmod 3 = 1 := by rw [Int.tmod_eq_emod_of_nonneg (by omega)]; omega
                  have h3e : ¬ (j : Int) % 3 = 1 := by omega
                  have hts := told_no hF.ts (by simpa using h3)
                  have hrr : restL L (j + 1) = restL L j ++ [nth L j] := by rw [restL, if_neg h3]
                  have hrl := restL_len L j
                  have hora := (hF.or.up hba)
                  have hosa := (hF.os.up hba)
                  have hszw : w5.heap.size ≤ wa.heap.size := by omega
                  go_wp2_with (at_builtin; refine wpList_app1 rfl (.tmp 64) (.tmp 69) rfl w5.heap.size _ (restL L j) rfl (hora.alloc _) _ z rfl (cell0_alloc _ _ _) (by omega) (le_alloc hszw) ?_; intro v1 w6 hown6 hg6 hbel6 hat6)
                  (first | (go_round; (case rel => exact ⟨j + 1, by omega, by go_num, A2, S', { oa := (hoa.alloc _).apart hg6 hsa, ra := hra, ta := hta, la := by omega, os := (hosa.alloc _).apart hg6 hF.ss, rs := hF.rs, ts := hts, ls := by omega, or := by rw [hrr, ← HZ.out]; exact hown6, sa := Sep.new2 hsa (hoa.alloc _) hat6, ss := Sep.new2 hF.ss (hosa.alloc _) hat6 }, (bel_alloc (bel_trans hbj hba)).trans hbel6⟩); (case measure => (simp [intOf] <;> omega))) | (go_roundw; (case rel => exact ⟨j + 1, by omega, by go_num, A2, S', { oa := (hoa.alloc _).apart hg6 hsa, ra := hra, ta := hta, la := by omega, os := (hosa.alloc _).apart hg6 hF.ss, rs := hF.rs, ts := hts, ls := by omega, or := by rw [hrr, ← HZ.out]; exact hown6, sa := Sep.new2 hsa (hoa.alloc _) hat6, ss := Sep.new2 hF.ss (hosa.alloc _) hat6 }, (bel_alloc (bel_trans hbj hba)).trans hbel6⟩); (case measure => (simp [intOf] <;> omega))) | (refine ⟨?_, by simp [intOf] <;> omega⟩; (repeat apply Exists.intro); refine ⟨?rel, ?fr⟩; (case fr => ((repeat' apply And.intro) <;> rfl)); (case rel => exact ⟨j + 1, by omega, by go_num, A2, S', { oa := (hoa.alloc _).apart hg6 hsa, ra := hra, ta := hta, la := by omega, os := (hosa.alloc _).apart hg6 hF.ss, rs := hF.rs, ts := hts, ls := by omega, or := by rw [hrr, ← HZ.out]; exact hown6, sa := Sep.new2 hsa (hoa.alloc _) hat6, ss := Sep.new2 hF.ss (hosa.alloc _) hat6 }, (bel_alloc (bel_trans hbj hba)).trans hbel6⟩)))
              · have hjl : j = L.length := by omega
                obtain ⟨aA, ac, rfl, hai, _⟩ := hF.oa.ints (by omega)
                obtain ⟨sA, sc, rfl, hsi, _⟩ := hF.os.ints (by omega)
                obtain ⟨R, hR⟩ : ∃ R, R = restL L j := ⟨_, rfl⟩
                have hor := hF.or
                rw [← hR] at hor
                have hRl : R.length ≤ 65536 := by rw [hR]; have := restL_len L j; omega
                obtain ⟨rA, rc, rfl, hri, _⟩ := hor.ints (by omega)
                have q1 := orderB_done HM.out hF.ra HCE.out
                have q2 := orderB_done HM.out hF.rs HCE.out
                have h1 : orderB D di A' = [] := by rw [q1.1, HLL.out]; exact fresh_all (hjl ▸ hF.ta)
                have h2 : orderB D di S' = R := by rw [q2.1, HLL.out, hR, hjl, ← fresh_part HAP.out (hjl ▸ hF.ts) L.length (Nat.le_refl _), List.take_length]
                have H1 := Lib.hid h1
                have H2 := Lib.hid h2
                have E1 := Lib.hid q1.2
                have E2 := Lib.hid q2.2
                have HAI := Lib.hid hai
                have HSI := Lib.hid hsi
                have HRI := Lib.hid hri
                have hbwj : Below w.heap.size w wj := bel_trans hbwk hbkj
                clear hR hor q1 q2 h1 h2 hai hsi hri hF hb5k hbj
                go_wp2_with fail
                go_region_held3 (fun X => X.cell? ⟨w.heap.size, 0, none⟩ = some (.int .i64 D.nodes) ∧ X.cell? ⟨w.heap.size, 1, none⟩ = some (.int .i64 D.low) ∧ X.cell? ⟨w.heap.size, 2, none⟩ = some (.slice A n c) ∧ X.cell? ⟨w.heap.size, 3, none⟩ = some (.slice (some ⟨ib, ioff, none⟩) im ic) ∧ X.cell? ⟨w.heap.size, 4, none⟩ = some (.slice lA lm lc) ∧ X.cell? ⟨ib, ioff + i, none⟩ = some (.int .i64 di))
                  (exact HC.out _ (by (repeat (first | (with_reducible exact Below.refl _ _) | (with_reducible assumption) | (with_reducible apply bel_alloc) | (with_reducible apply bel_drew) | (with_reducible apply bel_drewN) | (with_reducible refine bel_trans ?_ (by with_reducible assumption)) | (with_reducible refine bel_trans ?_ (HF.out _)) | (with_reducible refine bel_set ?_ (by simp) _) | (with_reducible refine bel_set ?_ (by simp; omega) _) | (with_reducible refine bel_set ?_ (by omega) _)))))
                  ((go_at_call 33; refine (order_OrderAt _ _ _ D di _ _ _ A' [] 0 _ (HL.out.up (by (repeat (first | (with_reducible exact Below.refl _ _) | (with_reducible assumption) | (with_reducible apply bel_alloc) | (with_reducible apply bel_drew) | (with_reducible apply bel_drewN) | (with_reducible refine bel_trans ?_ (by with_reducible assumption)) | (with_reducible refine bel_trans ?_ (HF.out _)) | (with_reducible refine bel_set ?_ (by simp) _) | (with_reducible refine bel_set ?_ (by simp; omega) _) | (with_reducible refine bel_set ?_ (by omega) _))))) (HAI.out.up (by (repeat (first | (with_reducible exact Below.refl _ _) | (with_reducible assumption) | (with_reducible apply bel_alloc) | (with_reducible apply bel_drew) | (with_reducible apply bel_drewN) | (with_reducible refine bel_trans ?_ (by with_reducible assumption)) | (with_reducible refine bel_trans ?_ (HF.out _)) | (with_reducible refine bel_set ?_ (by simp) _) | (with_reducible refine bel_set ?_ (by simp; omega) _) | (with_reducible refine bel_set ?_ (by omega) _))))) (by omega) H1.out E1.out).mono ?_; rintro e wn ⟨v, rfl, hown2, hbn⟩; obtain ⟨nA, nc, rfl, hnint, _⟩ := hown2.ints (by simp); have hbjn : Below wj.heap.size wj wn := (by (repeat (first | (with_reducible exact Below.refl _ _) | (with_reducible assumption) | (with_reducible apply bel_alloc) | (with_reducible apply bel_drew) | (with_reducible apply bel_drewN) | (with_reducible refine bel_trans ?_ (by with_reducible assumption)) | (with_reducible refine bel_trans ?_ (HF.out _)) | (with_reducible refine bel_set ?_ (by simp) _) | (with_reducible refine bel_set ?_ (by simp; omega) _) | (with_reducible refine bel_set ?_ (by omega) _))))))
                have hbkn : Below wk.heap.size wk wn := bel_trans hbkj hbjn
                have hbwn : Below w.heap.size w wn := bel_trans hbwj hbjn
                clear hown2 hnint hbn
                go_wp2_with fail
                go_region_held3 (fun X => X.cell? ⟨w.heap.size, 0, none⟩ = some (.int .i64 D.nodes) ∧ X.cell? ⟨w.heap.size, 1, none⟩ = some (.int .i64 D.low) ∧ X.cell? ⟨w.heap.size, 2, none⟩ = some (.slice A n c) ∧ X.cell? ⟨w.heap.size, 3, none⟩ = some (.slice (some ⟨ib, ioff, none⟩) im ic) ∧ X.cell? ⟨w.heap.size, 4, none⟩ = some (.slice lA lm lc) ∧ X.cell? ⟨ib, ioff + i, none⟩ = some (.int .i64 di))
                  (exact HC.out _ (by (repeat (first | (with_reducible exact Below.refl _ _) | (with_reducible assumption) | (with_reducible apply bel_alloc) | (with_reducible apply bel_drew) | (with_reducible apply bel_drewN) | (with_reducible refine bel_trans ?_ (by with_reducible assumption)) | (with_reducible refine bel_trans ?_ (HF.out _)) | (with_reducible refine bel_set ?_ (by simp) _) | (with_reducible refine bel_set ?_ (by simp; omega) _) | (with_reducible refine bel_set ?_ (by omega) _)))))
                  ((go_at_call 33; refine (order_OrderAt _ _ _ D di _ _ _ S' R 0 _ (HL.out.up (by (repeat (first | (with_reducible exact Below.refl _ _) | (with_reducible assumption) | (with_reducible apply bel_alloc) | (with_reducible apply bel_drew) | (with_reducible apply bel_drewN) | (with_reducible refine bel_trans ?_ (by with_reducible assumption)) | (with_reducible refine bel_trans ?_ (HF.out _)) | (with_reducible refine bel_set ?_ (by simp) _) | (with_reducible refine bel_set ?_ (by simp; omega) _) | (with_reducible refine bel_set ?_ (by omega) _))))) (HSI.out.up (by (repeat (first | (with_reducible exact Below.refl _ _) | (with_reducible assumption) | (with_reducible apply bel_alloc) | (with_reducible apply bel_drew) | (with_reducible apply bel_drewN) | (with_reducible refine bel_trans ?_ (by with_reducible assumption)) | (with_reducible refine bel_trans ?_ (HF.out _)) | (with_reducible refine bel_set ?_ (by simp) _) | (with_reducible refine bel_set ?_ (by simp; omega) _) | (with_reducible refine bel_set ?_ (by omega) _))))) (by omega) H2.out E2.out).mono ?_; rintro e wm ⟨v, rfl, hown3, hbm⟩; obtain ⟨mA, mc, rfl, hmint, _⟩ := hown3.ints (by omega); have hbnm : Below wn.heap.size wn wm := (by (repeat (first | (with_reducible exact Below.refl _ _) | (with_reducible assumption) | (with_reducible apply bel_alloc) | (with_reducible apply bel_drew) | (with_reducible apply bel_drewN) | (with_reducible refine bel_trans ?_ (by with_reducible assumption)) | (with_reducible refine bel_trans ?_ (HF.out _)) | (with_reducible refine bel_set ?_ (by simp) _) | (with_reducible refine bel_set ?_ (by simp; omega) _) | (with_reducible refine bel_set ?_ (by omega) _))))))
                have HMI := Lib.hid hmint
                clear hown3 hmint hbm
                go_wp2_with (go_at_call 34; refine (law17_num _ _).mono ?_; rintro e w' ⟨rfl, rfl⟩)
                refine (ref0_EqNumbers_same _ _ _ _ _ _ _ _ HMI.out (HRI.out.up (bel_trans hbjn hbnm))).mono ?_
                rintro e wq ⟨rfl, hbq⟩
                go_wp2_with fail
                (first | (go_round; (case rel => exact ⟨i + 1, by omega, by go_num, bel_trans hby (bel_trans hbkn (bel_trans hbnm hbq))⟩); (case measure => (simp [intOf] <;> omega))) | (go_roundw; (case rel => exact ⟨i + 1, by omega, by go_num, bel_trans hby (bel_trans hbkn (bel_trans hbnm hbq))⟩); (case measure => (simp [intOf] <;> omega))) | (refine ⟨?_, by simp [intOf] <;> omega⟩; (repeat apply Exists.intro); refine ⟨?rel, ?fr⟩; (case fr => ((repeat' apply And.intro) <;> rfl)); (case rel => exact ⟨i + 1, by omega, by go_num, bel_trans hby (bel_trans hbkn (bel_trans hbnm hbq))⟩)))
        · go_wp2_with (go_at_call 35; refine (law17_wakes _).mono ?_; rintro e w9 ⟨rfl, hb9⟩)
          go_ret
          exact ⟨rfl, bel_trans hbwk hb9⟩
end Go.Proofs.Ythpljlffjbodpaa
