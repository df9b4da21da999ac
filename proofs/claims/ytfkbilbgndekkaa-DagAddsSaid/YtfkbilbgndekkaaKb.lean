/- Numbers cloned; headers, certificates, lists of them, DAGs owned at the program. -/
import Derived.Test.YtfkbilbgndekkaaKa
import Derived.Deep.RegionWith
import Derived.Deep.Cut
import Derived.Deep.CutRange
namespace Go.Proofs.Ytfkbilbgndekkaa
open Go.RowKit
set_option linter.unusedSimpArgs false
set_option linter.unusedVariables false

theorem info_Int : (Try.prog.info? 3).map (fun i => (i.zero, i.size, i.bytes)) = some (some (.int .i64 0), 1, 8) := by kernel_rfl
theorem run_app_Int (w : World) (B : Nat) (v : Value) (n : Nat) (xs : List Value) (hown : w.ownsRow B 3 1 v n xs) (vb off m c : Nat) (e : List Value) (hm : e.length = m * 1) (hv : ∀ j u, e[j]? = some u → w.cell? ⟨vb, off + j, none⟩ = some u) (h1e : ∀ u ∈ e, u.oneCell' = true) (hn : n + m ≤ 1000000000) (hB : B ≤ w.heap.size) :
    ∃ v' w', (Builtin.append_ #[25, 25] 25 #[v, .slice (some ⟨vb, off, none⟩) m c]).run Try.prog w = .ok v' w' ∧ w'.ownsRow B 3 1 v' (n + m) (xs ++ e) ∧ w.grownBy w' v.ownBlock ∧ Below B w w' ∧ (v'.ownBlock = v.ownBlock ∨ v'.ownBlock = some w.heap.size) := by
  obtain ⟨i0, hi, hz, hz1, hz2⟩ := info_parts info_Int
  obtain ⟨v', w', hrun, h2, h3, _, h5⟩ := run_append_own_at (P := Try.prog) w B 25 25 3 i0 _ 1 8 Try.underlying25 hi hz hz1 hz2 rfl (by omega) v n xs hown ⟨vb, off, none⟩ m c e hm
    (by intro j u hu; rw [Addr.add_lit]; exact hv j u hu) h1e (by simp only [maxLen]; omega) (by omega) hB
  exact ⟨v', w', hrun, h2, h3, ⟨h3.os, h3.tape, h3.output, h3.size, fun k hk => h3.block k (by omega) (fun e => by have := (own_lt hown k e.symm).1; omega)⟩, h5⟩
set_option maxHeartbeats 1000000 in
set_option maxRecDepth 100000 in
theorem slices_Clone_Int (A : Option Addr) (n c : Nat) (xs : List Value) (w : World) (hr : RowV w A n 1 xs) (h1x : ∀ u ∈ xs, u.oneCell' = true) (hn : n ≤ 900000000) :
    Calls Try.prog 125 #[.slice A n c] w fun r w' => ∃ v', r = .returned v' ∧ w'.ownsRow w.heap.size 3 1 v' n xs ∧ Below w.heap.size w w' := by
  obtain ⟨g1, g2, g3⟩ := hr
  cases A with
  | none =>
    have h0 : n = 0 := by
      rcases Nat.eq_zero_or_pos n with h | h
      · exact h
      · obtain ⟨b, off, e, _⟩ := g3 h; cases e
    subst h0
    have hx : xs = [] := by simpa using g1
    subst hx
    clear g1 g2 g3
    have hnil := Lib.run_eql_slice_nil (P := Try.prog) w 25 3 none 0 c 0 0 Try.underlying25
    go_enter Try.func125, Try.ntmps125
    go_wp2_with fail
    go_ret
    exact ⟨_, rfl, own_nil _ _ _ _, Below.refl _ _⟩
  | some a =>
    have hown : (w.alloc (.cells #[] 3)).ownsRow w.heap.size 3 1 (.slice (some ⟨w.heap.size, 0, none⟩) 0 0) 0 [] :=
      ⟨rfl, .inr ⟨w.heap.size, 0, #[], rfl, Nat.le_refl _, heap_alloc_new w _, Nat.le_refl _, by decide, rfl, rfl⟩⟩
    rcases Nat.eq_zero_or_pos n with h0 | h0
    · subst h0
      have hx : xs = [] := by simpa using g1
      subst hx
      clear g1 g2 g3
      obtain ⟨b, off, sp⟩ := a
      have hrun : (Builtin.append_ #[25, 25] 25 #[.slice (some ⟨w.heap.size, 0, none⟩) 0 0, .slice (some ⟨b, off, sp⟩) 0 c]).run Try.prog (w.alloc (.cells #[] 3)) = .ok (.slice (some ⟨w.heap.size, 0, none⟩) 0 0) (w.alloc (.cells #[] 3)) := by
        obtain ⟨i0, hi, hz, hz1, hz2⟩ := info_parts info_Int
        simp [Builtin.append_, run_underlying Try.underlying25, sizeOf, typeInfo, hi, Builtin.lenOf, Builtin.firstCells, loadCells, loadCellsFrom, storeCells]
      have HR := Lib.hid hrun
      clear hrun
      have hnil := Lib.run_eql_slice_nil (P := Try.prog) w 25 3 (some ⟨b, off, sp⟩) 0 c 0 0 Try.underlying25
      go_enter Try.func125, Try.ntmps125
      go_wp2_with (at_builtin; refine Lib.wpList_append_run _ rfl _ _ _ _ rfl _ _ rfl rfl _ _ HR.out ?_)
      go_ret
      exact ⟨_, rfl, hown, (Below.refl _ _).alloc (Nat.le_refl _) _⟩
    · obtain ⟨b, off, e, hb, hc⟩ := g3 h0
      injection e with e
      subst e
      have hba : Below w.heap.size w (w.alloc (.cells #[] 3)) := (Below.refl _ _).alloc (Nat.le_refl _) _
      obtain ⟨v', w', hrun, h2, h3, h4, h5⟩ := run_app_Int (w.alloc (.cells #[] 3)) w.heap.size _ 0 [] hown b off n c xs g1 (fun j u hj => (hba.cell (p := ⟨b, off + j, none⟩) hb).trans (hc j u hj)) h1x (by omega) (by simp)
      rw [Nat.zero_add, List.nil_append] at h2
      have HR := Lib.hid hrun
      have H2 := Lib.hid h2
      have hbel : Below w.heap.size w w' := hba.trans h4
      clear hrun h2 h3 h4 h5 g1 g2 g3 hc hown
      have hnil := Lib.run_eql_slice_nil (P := Try.prog) w 25 3 (some ⟨b, off, none⟩) n c 0 0 Try.underlying25
      go_enter Try.func125, Try.ntmps125
      go_wp2_with (at_builtin; refine Lib.wpList_append_run _ rfl _ _ _ _ rfl _ _ rfl rfl _ _ HR.out ?_)
      go_ret
      exact ⟨_, rfl, H2.out, hbel⟩
theorem ints_flat (l : List Int) : flat (fun z : Int => [Value.int .i64 z]) l = l.map (Value.int .i64) := by
  induction l with
  | nil => rfl
  | cons x l ih => unfold flat at ih ⊢; rw [List.map_cons, List.flatten_cons, ih]; rfl
theorem IntsR.row {w : World} {A : Option Addr} {n : Nat} {l : List Int} (h : IntsR w A n l) : RowV w A n 1 (l.map (Value.int .i64)) := by
  obtain ⟨h1, h2, h3⟩ := h
  refine ⟨by simp [h1], h2, fun hn => ?_⟩
  obtain ⟨b, off, rfl, hb, hc⟩ := h3 hn
  refine ⟨b, off, rfl, hb, fun j u hj => ?_⟩
  have hjl : j < l.length := by
    have := (List.getElem?_eq_some_iff.1 hj).1
    simpa using this
  have e : u = .int .i64 (nth l j) := by
    simp [List.getElem?_map, hjl, nth] at hj ⊢
    exact hj.symm
  rw [e]
  exact hc j (by omega)
theorem ints_one (l : List Int) : ∀ u ∈ l.map (Value.int .i64), u.oneCell' = true := by
  intro u hu
  obtain ⟨z, _, rfl⟩ := List.mem_map.1 hu
  rfl
theorem clone_Ints (A : Option Addr) (n c : Nat) (l : List Int) (w : World) (hl : IntsR w A n l) (hn : n ≤ 900000000) :
    Calls Try.prog 125 #[.slice A n c] w fun e w' => ∃ s : SlP, e = .returned (.slice s.A s.n s.c) ∧ OwnI w' w.heap.size s.v l ∧ Below w.heap.size w w' :=
  (slices_Clone_Int A n c _ w hl.row (ints_one l) hn).mono fun e w' ⟨v, he, ho, hb⟩ => by
    obtain ⟨A', c', e', _⟩ := own_row ho (by omega)
    subst e'
    refine ⟨⟨A', n, c'⟩, he, ?_, hb⟩
    unfold OwnI
    rw [hl.1]
    exact ho
set_option maxRecDepth 100000 in
set_option maxHeartbeats 4000000 in
theorem header_Own (H : HeaderD) (bA pA : Option Addr) (bn bc pn pc : Nat) (w : World) (hr : HeaderR w ⟨⟨bA, bn, bc⟩, ⟨pA, pn, pc⟩⟩ H) (hbn : bn ≤ 900000000) (hpn : pn ≤ 900000000) :
    Calls Try.prog 124 #[.agg #[.int .i64 H.au, .int .i64 H.ro, .slice bA bn bc, .slice pA pn pc]] w fun e w' => ∃ p : HeaderP, e = .returned (.agg #[.int .i64 H.au, .int .i64 H.ro, .slice p.b.A p.b.n p.b.c, .slice p.p.A p.p.n p.p.c]) ∧ HeaderO w' w.heap.size p H ∧ Below w.heap.size w w' := by
  have h1 : IntsR w bA bn H.ba := hr.1
  have h2 : IntsR w pA pn H.pa := hr.2
  have G1 := Lib.hid h1; have G2 := Lib.hid h2
  clear hr h1 h2
  go_enter Try.func124, Try.ntmps124
  go_upto_region 1 with fail
  go_cut [] from 3 to 10 (fun wx => ∃ p : HeaderP, Blk wx w.heap.size 46 [.int .i64 H.au, .int .i64 H.ro, p.b.v, p.p.v] ∧ Blk wx (w.heap.size + 1) 46 [.int .i64 0, .int .i64 0, .slice none 0 0, .slice none 0 0] ∧ HeaderO wx (w.heap.size + 2) p H ∧ Below w.heap.size w wx)
  case first =>
    have hX1 : Blk ((w.alloc (.cells #[.int .i64 H.au, .int .i64 H.ro, .slice bA bn bc, .slice pA pn pc] 46)).alloc (.cells #[.int .i64 0, .int .i64 0, .slice none 0 0, .slice none 0 0] 46)) w.heap.size 46 [.int .i64 H.au, .int .i64 H.ro, .slice bA bn bc, .slice pA pn pc] := (Blk.new w 46 [.int .i64 H.au, .int .i64 H.ro, .slice bA bn bc, .slice pA pn pc]).up (by (repeat (first | (with_reducible exact Below.refl _ _) | (with_reducible assumption) | (with_reducible apply bel_alloc) | (with_reducible apply bel_drew) | (with_reducible apply bel_drewN) | (with_reducible refine bel_trans ?_ (by with_reducible assumption)) | (with_reducible refine bel_trans ?_ (HF.out _)) | (with_reducible refine bel_set ?_ (by simp) _) | (with_reducible refine bel_set ?_ (by simp; omega) _) | (with_reducible refine bel_set ?_ (by omega) _))))
    have hX2 : Blk ((w.alloc (.cells #[.int .i64 H.au, .int .i64 H.ro, .slice bA bn bc, .slice pA pn pc] 46)).alloc (.cells #[.int .i64 0, .int .i64 0, .slice none 0 0, .slice none 0 0] 46)) (w.heap.size + 1) 46 [.int .i64 0, .int .i64 0, .slice none 0 0, .slice none 0 0] := by
      have := Blk.new (w.alloc (.cells #[.int .i64 H.au, .int .i64 H.ro, .slice bA bn bc, .slice pA pn pc] 46)) 46 [.int .i64 0, .int .i64 0, .slice none 0 0, .slice none 0 0]
      simpa using this
    have hbX : Below w.heap.size w ((w.alloc (.cells #[.int .i64 H.au, .int .i64 H.ro, .slice bA bn bc, .slice pA pn pc] 46)).alloc (.cells #[.int .i64 0, .int .i64 0, .slice none 0 0, .slice none 0 0] 46)) := by (repeat (first | (with_reducible exact Below.refl _ _) | (with_reducible assumption) | (with_reducible apply bel_alloc) | (with_reducible apply bel_drew) | (with_reducible apply bel_drewN) | (with_reducible refine bel_trans ?_ (by with_reducible assumption)) | (with_reducible refine bel_trans ?_ (HF.out _)) | (with_reducible refine bel_set ?_ (by simp) _) | (with_reducible refine bel_set ?_ (by simp; omega) _) | (with_reducible refine bel_set ?_ (by omega) _)))
    have hzX : ((w.alloc (.cells #[.int .i64 H.au, .int .i64 H.ro, .slice bA bn bc, .slice pA pn pc] 46)).alloc (.cells #[.int .i64 0, .int .i64 0, .slice none 0 0, .slice none 0 0] 46)).heap.size = w.heap.size + 2 := by simp
    generalize ((w.alloc (.cells #[.int .i64 H.au, .int .i64 H.ro, .slice bA bn bc, .slice pA pn pc] 46)).alloc (.cells #[.int .i64 0, .int .i64 0, .slice none 0 0, .slice none 0 0] 46)) = X at *
    have hg2 := hX1.box.2 2 _ rfl
    have hg3 := hX1.box.2 3 _ rfl
    have hff := hX1.frozen
    have HX1 := Lib.hid hX1
    have HX2 := Lib.hid hX2
    clear hX1 hX2
    go_region_with (first
      | (go_at_call_of 125 (Value.slice bA bn bc); refine (clone_Ints bA bn bc H.ba _ (G1.out.up (by (repeat (first | (with_reducible exact Below.refl _ _) | (with_reducible assumption) | (with_reducible apply bel_alloc) | (with_reducible apply bel_drew) | (with_reducible apply bel_drewN) | (with_reducible refine bel_trans ?_ (by with_reducible assumption)) | (with_reducible refine bel_trans ?_ (HF.out _)) | (with_reducible refine bel_set ?_ (by simp) _) | (with_reducible refine bel_set ?_ (by simp; omega) _) | (with_reducible refine bel_set ?_ (by omega) _))))) hbn).mono ?_; rintro e wb ⟨sb, rfl, hownB, hbB⟩; have hzB := hbB.size; (try simp at hzB); have hcB := fun o => (bcell hbB).1 w.heap.size o (by first | (simp; done) | (simp; omega) | omega); have hfB := fun o => (bcell hbB).2 w.heap.size o (by first | (simp; done) | (simp; omega) | omega))
      | (go_at_call_of 125 (Value.slice pA pn pc); refine (clone_Ints pA pn pc H.pa _ (G2.out.up (by (repeat (first | (with_reducible exact Below.refl _ _) | (with_reducible assumption) | (with_reducible apply bel_alloc) | (with_reducible apply bel_drew) | (with_reducible apply bel_drewN) | (with_reducible refine bel_trans ?_ (by with_reducible assumption)) | (with_reducible refine bel_trans ?_ (HF.out _)) | (with_reducible refine bel_set ?_ (by simp) _) | (with_reducible refine bel_set ?_ (by simp; omega) _) | (with_reducible refine bel_set ?_ (by omega) _))))) hpn).mono ?_; rintro e wp ⟨sp, rfl, hownP, hbP⟩; have hzP := hbP.size; (try simp at hzP); have hcP := fun o => (bcell hbP).1 w.heap.size o (by first | (simp; done) | (simp; omega) | omega); have hfP := fun o => (bcell hbP).2 w.heap.size o (by first | (simp; done) | (simp; omega) | omega)))
    all_goals
      go_wp2_with fail
      go_meet
      have hb1 : Below X.heap.size X wp := by (repeat (first | (with_reducible exact Below.refl _ _) | (with_reducible assumption) | (with_reducible apply bel_alloc) | (with_reducible apply bel_drew) | (with_reducible apply bel_drewN) | (with_reducible refine bel_trans ?_ (by with_reducible assumption)) | (with_reducible refine bel_trans ?_ (HF.out _)) | (with_reducible refine bel_set ?_ (by simp) _) | (with_reducible refine bel_set ?_ (by simp; omega) _) | (with_reducible refine bel_set ?_ (by omega) _)))
      have hX1a := ((HX1.out.up hb1).set_ 2 sb.v).set_ 3 sp.v
      have hX2a := ((HX2.out.up hb1).far (p := ⟨w.heap.size, 2, none⟩) (by simp) sb.v).far (p := ⟨w.heap.size, 3, none⟩) (by simp) sp.v
      have hO1 := ((OwnI.up hownB hbP).mono (B' := w.heap.size + 2) (by first | omega | (simp; done) | (simp; omega))).set (p := ⟨w.heap.size, 2, none⟩) (by first | omega | (simp; done) | (simp; omega)) sb.v
      have hO2 := (hownP.mono (B' := w.heap.size + 2) (by first | omega | (simp; done) | (simp; omega))).set (p := ⟨w.heap.size, 2, none⟩) (by first | omega | (simp; done) | (simp; omega)) sb.v
      exact ⟨⟨sb, sp⟩, hX1a, hX2a, ⟨hO1.set (p := ⟨w.heap.size, 3, none⟩) (by first | omega | (simp; done) | (simp; omega)) sp.v, hO2.set (p := ⟨w.heap.size, 3, none⟩) (by first | omega | (simp; done) | (simp; omega)) sp.v⟩, by (repeat (first | (with_reducible exact Below.refl _ _) | (with_reducible assumption) | (with_reducible apply bel_alloc) | (with_reducible apply bel_drew) | (with_reducible apply bel_drewN) | (with_reducible refine bel_trans ?_ (by with_reducible assumption)) | (with_reducible refine bel_trans ?_ (HF.out _)) | (with_reducible refine bel_set ?_ (by simp) _) | (with_reducible refine bel_set ?_ (by simp; omega) _) | (with_reducible refine bel_set ?_ (by omega) _)))⟩
  case rest =>
  obtain ⟨p, hx1, hx2, ho, hb⟩ := hcut
  obtain ⟨⟨A1, n1, c1⟩, ⟨A2, n2, c2⟩⟩ := p
  have hR1 : Blk wc w.heap.size 46 [.int .i64 H.au, .int .i64 H.ro, .slice A1 n1 c1, .slice A2 n2 c2] := hx1
  have g_0 := (hR1.box).2 0 _ rfl; have g_1 := (hR1.box).2 1 _ rfl; have g_2 := (hR1.box).2 2 _ rfl; have g_3 := (hR1.box).2 3 _ rfl
  have k_0 := (hx2.box).2 0 _ rfl; have k_1 := (hx2.box).2 1 _ rfl; have k_2 := (hx2.box).2 2 _ rfl; have k_3 := (hx2.box).2 3 _ rfl
  have kf := hx2.frozen
  have hx1l := hR1.lt
  have hx2l := hx2.lt
  have HO := Lib.hid ho
  have hR := (((hx2.set_ 0 (.int .i64 H.au)).set_ 1 (.int .i64 H.ro)).set_ 2 (.slice A1 n1 c1)).set_ 3 (.slice A2 n2 c2)
  have r_0 := (hR.box).2 0 _ rfl; have r_1 := (hR.box).2 1 _ rfl; have r_2 := (hR.box).2 2 _ rfl; have r_3 := (hR.box).2 3 _ rfl
  clear hR ho hx1 hx2
  go_wp2_with fail
  exact bodyPost_ret (v := .agg #[.int .i64 H.au, .int .i64 H.ro, .slice A1 n1 c1, .slice A2 n2 c2]) (by simp [results, Try.results124, go_sem, r_0, r_1, r_2, r_3, k_0, k_1]) rfl ⟨⟨⟨A1, n1, c1⟩, ⟨A2, n2, c2⟩⟩, rfl, HeaderO.mono ((((HO.out.setLow (by omega)).setLow (by omega)).setLow (by omega)).setLow (by omega)) (by omega), by (repeat (first | (with_reducible exact Below.refl _ _) | (with_reducible assumption) | (with_reducible apply bel_alloc) | (with_reducible apply bel_drew) | (with_reducible apply bel_drewN) | (with_reducible refine bel_trans ?_ (by with_reducible assumption)) | (with_reducible refine bel_trans ?_ (HF.out _)) | ((with_reducible refine bel_set3 ?_ ?_); rotate_left; omega)))⟩
set_option maxRecDepth 100000 in
set_option maxHeartbeats 4000000 in
theorem header_OwnCert (C : CertD) (bA pA sA : Option Addr) (bn bc pn pc sn sc : Nat) (w : World) (hr : CertR w ⟨⟨⟨bA, bn, bc⟩, ⟨pA, pn, pc⟩⟩, ⟨sA, sn, sc⟩⟩ C) (hbn : bn ≤ 900000000) (hpn : pn ≤ 900000000) (hsn : sn ≤ 900000000) :
    Calls Try.prog 96 #[.agg #[.int .i64 C.h.au, .int .i64 C.h.ro, .slice bA bn bc, .slice pA pn pc, .int .i64 C.di, .slice sA sn sc]] w fun e w' => ∃ p : CertP, e = .returned (.agg #[.int .i64 C.h.au, .int .i64 C.h.ro, .slice p.h.b.A p.h.b.n p.h.b.c, .slice p.h.p.A p.h.p.n p.h.p.c, .int .i64 C.di, .slice p.s.A p.s.n p.s.c]) ∧ CertO w' w.heap.size p C ∧ Below w.heap.size w w' := by
  have h1 : HeaderR w ⟨⟨bA, bn, bc⟩, ⟨pA, pn, pc⟩⟩ C.h := hr.1
  have h2 : IntsR w sA sn C.si := hr.2
  have G1 := Lib.hid h1; have G2 := Lib.hid h2
  clear hr h1 h2
  go_enter Try.func96, Try.ntmps96
  go_upto_region 1 with fail
  go_cut [] from 3 to 10 (fun wx => ∃ p : CertP, Blk wx w.heap.size 48 [.int .i64 C.h.au, .int .i64 C.h.ro, p.h.b.v, p.h.p.v, .int .i64 C.di, p.s.v] ∧ Blk wx (w.heap.size + 1) 48 [.int .i64 0, .int .i64 0, .slice none 0 0, .slice none 0 0, .int .i64 0, .slice none 0 0] ∧ CertO wx (w.heap.size + 2) p C ∧ Below w.heap.size w wx)
  case first =>
    have hX1 : Blk ((w.alloc (.cells #[.int .i64 C.h.au, .int .i64 C.h.ro, .slice bA bn bc, .slice pA pn pc, .int .i64 C.di, .slice sA sn sc] 48)).alloc (.cells #[.int .i64 0, .int .i64 0, .slice none 0 0, .slice none 0 0, .int .i64 0, .slice none 0 0] 48)) w.heap.size 48 [.int .i64 C.h.au, .int .i64 C.h.ro, .slice bA bn bc, .slice pA pn pc, .int .i64 C.di, .slice sA sn sc] := (Blk.new w 48 [.int .i64 C.h.au, .int .i64 C.h.ro, .slice bA bn bc, .slice pA pn pc, .int .i64 C.di, .slice sA sn sc]).up (by (repeat (first | (with_reducible exact Below.refl _ _) | (with_reducible assumption) | (with_reducible apply bel_alloc) | (with_reducible apply bel_drew) | (with_reducible apply bel_drewN) | (with_reducible refine bel_trans ?_ (by with_reducible assumption)) | (with_reducible refine bel_trans ?_ (HF.out _)) | (with_reducible refine bel_set ?_ (by simp) _) | (with_reducible refine bel_set ?_ (by simp; omega) _) | (with_reducible refine bel_set ?_ (by omega) _))))
    have hX2 : Blk ((w.alloc (.cells #[.int .i64 C.h.au, .int .i64 C.h.ro, .slice bA bn bc, .slice pA pn pc, .int .i64 C.di, .slice sA sn sc] 48)).alloc (.cells #[.int .i64 0, .int .i64 0, .slice none 0 0, .slice none 0 0, .int .i64 0, .slice none 0 0] 48)) (w.heap.size + 1) 48 [.int .i64 0, .int .i64 0, .slice none 0 0, .slice none 0 0, .int .i64 0, .slice none 0 0] := by
      have := Blk.new (w.alloc (.cells #[.int .i64 C.h.au, .int .i64 C.h.ro, .slice bA bn bc, .slice pA pn pc, .int .i64 C.di, .slice sA sn sc] 48)) 48 [.int .i64 0, .int .i64 0, .slice none 0 0, .slice none 0 0, .int .i64 0, .slice none 0 0]
      simpa using this
    have hbX : Below w.heap.size w ((w.alloc (.cells #[.int .i64 C.h.au, .int .i64 C.h.ro, .slice bA bn bc, .slice pA pn pc, .int .i64 C.di, .slice sA sn sc] 48)).alloc (.cells #[.int .i64 0, .int .i64 0, .slice none 0 0, .slice none 0 0, .int .i64 0, .slice none 0 0] 48)) := by (repeat (first | (with_reducible exact Below.refl _ _) | (with_reducible assumption) | (with_reducible apply bel_alloc) | (with_reducible apply bel_drew) | (with_reducible apply bel_drewN) | (with_reducible refine bel_trans ?_ (by with_reducible assumption)) | (with_reducible refine bel_trans ?_ (HF.out _)) | (with_reducible refine bel_set ?_ (by simp) _) | (with_reducible refine bel_set ?_ (by simp; omega) _) | (with_reducible refine bel_set ?_ (by omega) _)))
    have hzX : (((w.alloc (.cells #[.int .i64 C.h.au, .int .i64 C.h.ro, .slice bA bn bc, .slice pA pn pc, .int .i64 C.di, .slice sA sn sc] 48)).alloc (.cells #[.int .i64 0, .int .i64 0, .slice none 0 0, .slice none 0 0, .int .i64 0, .slice none 0 0] 48))).heap.size = w.heap.size + 2 := by simp
    generalize ((w.alloc (.cells #[.int .i64 C.h.au, .int .i64 C.h.ro, .slice bA bn bc, .slice pA pn pc, .int .i64 C.di, .slice sA sn sc] 48)).alloc (.cells #[.int .i64 0, .int .i64 0, .slice none 0 0, .slice none 0 0, .int .i64 0, .slice none 0 0] 48)) = X at *
    have hg_0 := (hX1.box).2 0 _ rfl; have hg_1 := (hX1.box).2 1 _ rfl; have hg_2 := (hX1.box).2 2 _ rfl; have hg_3 := (hX1.box).2 3 _ rfl; have hg_4 := (hX1.box).2 4 _ rfl; have hg_5 := (hX1.box).2 5 _ rfl
    have hff := hX1.frozen
    have HX1 := Lib.hid hX1
    have HX2 := Lib.hid hX2
    clear hX1 hX2
    go_region_with (first
      | (go_at_call 124; refine (header_Own C.h bA pA bn bc pn pc _ (G1.out.up (by (repeat (first | (with_reducible exact Below.refl _ _) | (with_reducible assumption) | (with_reducible apply bel_alloc) | (with_reducible apply bel_drew) | (with_reducible apply bel_drewN) | (with_reducible refine bel_trans ?_ (by with_reducible assumption)) | (with_reducible refine bel_trans ?_ (HF.out _)) | (with_reducible refine bel_set ?_ (by simp) _) | (with_reducible refine bel_set ?_ (by simp; omega) _) | (with_reducible refine bel_set ?_ (by omega) _))))) hbn hpn).mono ?_; rintro e wb ⟨ph, rfl, hownB, hbB⟩; have hzB := hbB.size; (try simp at hzB); have hcB := fun o => (bcell hbB).1 w.heap.size o (by first | (simp; done) | (simp; omega) | omega); have hfB := fun o => (bcell hbB).2 w.heap.size o (by first | (simp; done) | (simp; omega) | omega))
      | (go_at_call 125; refine (clone_Ints sA sn sc C.si _ (G2.out.up (by (repeat (first | (with_reducible exact Below.refl _ _) | (with_reducible assumption) | (with_reducible apply bel_alloc) | (with_reducible apply bel_drew) | (with_reducible apply bel_drewN) | (with_reducible refine bel_trans ?_ (by with_reducible assumption)) | (with_reducible refine bel_trans ?_ (HF.out _)) | (with_reducible refine bel_set ?_ (by simp) _) | (with_reducible refine bel_set ?_ (by simp; omega) _) | (with_reducible refine bel_set ?_ (by omega) _))))) hsn).mono ?_; rintro e wp ⟨sp, rfl, hownP, hbP⟩; have hzP := hbP.size; (try simp at hzP); have hcP := fun o => (bcell hbP).1 w.heap.size o (by first | (simp; done) | (simp; omega) | omega); have hfP := fun o => (bcell hbP).2 w.heap.size o (by first | (simp; done) | (simp; omega) | omega)))
    all_goals
      go_wp2_with fail
      go_meet
      have hb1 : Below X.heap.size X wp := by (repeat (first | (with_reducible exact Below.refl _ _) | (with_reducible assumption) | (with_reducible apply bel_alloc) | (with_reducible apply bel_drew) | (with_reducible apply bel_drewN) | (with_reducible refine bel_trans ?_ (by with_reducible assumption)) | (with_reducible refine bel_trans ?_ (HF.out _)) | (with_reducible refine bel_set ?_ (by simp) _) | (with_reducible refine bel_set ?_ (by simp; omega) _) | (with_reducible refine bel_set ?_ (by omega) _)))
      have hX1a := (((((HX1.out.up hb1).set_ 0 (.int .i64 C.h.au)).set_ 1 (.int .i64 C.h.ro)).set_ 2 ph.b.v).set_ 3 ph.p.v).set_ 5 sp.v
      have hX2a := (((((HX2.out.up hb1).far (p := ⟨w.heap.size, 0, none⟩) (by simp) (.int .i64 C.h.au)).far (p := ⟨w.heap.size, 1, none⟩) (by simp) (.int .i64 C.h.ro)).far (p := ⟨w.heap.size, 2, none⟩) (by simp) ph.b.v).far (p := ⟨w.heap.size, 3, none⟩) (by simp) ph.p.v).far (p := ⟨w.heap.size, 5, none⟩) (by simp) sp.v
      have hO : CertO wp (w.heap.size + 2) ⟨ph, sp⟩ C := ⟨(HeaderO.up hownB hbP).mono (by first | omega | (simp; done) | (simp; omega)), hownP.mono (by first | omega | (simp; done) | (simp; omega))⟩
      exact ⟨⟨ph, sp⟩, hX1a, hX2a, ((((hO.setLow (by omega)).setLow (by omega)).setLow (by omega)).setLow (by omega)).setLow (by omega), by (repeat (first | (with_reducible exact Below.refl _ _) | (with_reducible assumption) | (with_reducible apply bel_alloc) | (with_reducible apply bel_drew) | (with_reducible apply bel_drewN) | (with_reducible refine bel_trans ?_ (by with_reducible assumption)) | (with_reducible refine bel_trans ?_ (HF.out _)) | ((with_reducible refine bel_set3 ?_ ?_); rotate_left; omega)))⟩
  case rest =>
  obtain ⟨p, hx1, hx2, ho, hb⟩ := hcut
  obtain ⟨⟨⟨A1, n1, c1⟩, ⟨A2, n2, c2⟩⟩, ⟨A3, n3, c3⟩⟩ := p
  have hR1 : Blk wc w.heap.size 48 [.int .i64 C.h.au, .int .i64 C.h.ro, .slice A1 n1 c1, .slice A2 n2 c2, .int .i64 C.di, .slice A3 n3 c3] := hx1
  have g_0 := (hR1.box).2 0 _ rfl; have g_1 := (hR1.box).2 1 _ rfl; have g_2 := (hR1.box).2 2 _ rfl; have g_3 := (hR1.box).2 3 _ rfl; have g_4 := (hR1.box).2 4 _ rfl; have g_5 := (hR1.box).2 5 _ rfl
  have k_0 := (hx2.box).2 0 _ rfl; have k_1 := (hx2.box).2 1 _ rfl; have k_2 := (hx2.box).2 2 _ rfl; have k_3 := (hx2.box).2 3 _ rfl; have k_4 := (hx2.box).2 4 _ rfl; have k_5 := (hx2.box).2 5 _ rfl
  have kf := hx2.frozen
  have hx1l := hR1.lt
  have hx2l := hx2.lt
  have HO := Lib.hid ho
  have hR := (((((hx2.set_ 0 (.int .i64 C.h.au)).set_ 1 (.int .i64 C.h.ro)).set_ 2 (.slice A1 n1 c1)).set_ 3 (.slice A2 n2 c2)).set_ 4 (.int .i64 C.di)).set_ 5 (.slice A3 n3 c3)
  have r_0 := (hR.box).2 0 _ rfl; have r_1 := (hR.box).2 1 _ rfl; have r_2 := (hR.box).2 2 _ rfl; have r_3 := (hR.box).2 3 _ rfl; have r_4 := (hR.box).2 4 _ rfl; have r_5 := (hR.box).2 5 _ rfl
  clear hR ho hx1 hx2
  go_wp2_with fail
  exact bodyPost_ret (v := .agg #[.int .i64 C.h.au, .int .i64 C.h.ro, .slice A1 n1 c1, .slice A2 n2 c2, .int .i64 C.di, .slice A3 n3 c3]) (by simp [results, Try.results96, go_sem, r_0, r_1, r_2, r_3, r_4, r_5, k_0, k_1]) rfl ⟨⟨⟨⟨A1, n1, c1⟩, ⟨A2, n2, c2⟩⟩, ⟨A3, n3, c3⟩⟩, rfl, CertO.mono ((((((HO.out.setLow (by omega)).setLow (by omega)).setLow (by omega)).setLow (by omega)).setLow (by omega)).setLow (by omega)) (by omega), by (repeat (first | (with_reducible exact Below.refl _ _) | (with_reducible assumption) | (with_reducible apply bel_alloc) | (with_reducible apply bel_drew) | (with_reducible apply bel_drewN) | (with_reducible refine bel_trans ?_ (by with_reducible assumption)) | (with_reducible refine bel_trans ?_ (HF.out _)) | ((with_reducible refine bel_set3 ?_ ?_); rotate_left; omega)))⟩
/-- append of one certificate to a row of one's own, whose lists are one's own. -/
theorem wpList_appD {w : World} {ops : Array Oper} {rest : List Oper} {o : Oper} {a : Act} {Q : Exit → Act → World → Prop} (hgd : o.guard = none) (s x : Operand)
    (ho : o.op = .call { callee := .builtin .append, args := #[s, x], argTypes := #[22, 22] })
    (B : Nat) (v : Value) (ps : List CertP) (l : List CertD) (hs : a.eval s = v) (hown : OwnD w B v ps l) (g : Nat) (p : CertP) (C : CertD) (hx : a.eval x = .slice (some ⟨g, 0, none⟩) 1 1) (hc : BoxR w g (certCells p C)) (hA : CertO w B p C)
    (hlen : l.length ≤ 1000000000) (hB : B ≤ w.heap.size)
    (h : ∀ v' w', OwnD w' B v' (ps ++ [p]) (l ++ [C]) → Below B w w' → wpList Try.prog ops Q rest (a.put o.dst v') w') : wpList Try.prog ops Q (o :: rest) a w := by
  obtain ⟨i0, hi, hz, hz1, hz2⟩ := info_parts cert_info
  refine wpList_plain hgd fun K hK => ?_
  obtain ⟨v', w', hrun, h2, h3, _, h5⟩ := run_append_own_at (P := Try.prog) w B 22 o.type 48 i0 _ 6 96 Try.underlying22 hi hz hz1 hz2 rfl (by omega) v l.length (rowCells ps l) hown.1 ⟨g, 0, none⟩ 1 1 (certCells p C) rfl
    (by intro j u hu; rw [Addr.add_lit, Nat.zero_add]; exact hc.2 j u hu) certCells_one (by simp only [maxLen]; omega) (by omega) hB
  have hown' : OwnD w' B v' (ps ++ [p]) (l ++ [C]) := by
    refine ⟨by rw [rowCells_snoc hown.2.1]; simpa using h2, by simp [hown.2.1], fun j hj => ?_⟩
    rcases Nat.lt_or_ge j l.length with hj' | hj'
    · have e1 : (ps ++ [p]).getD j default = ps.getD j default := by simp [List.getElem?_append, hown.2.1, hj']
      have e2 : cth (l ++ [C]) j = cth l j := by simp [cth, List.getElem?_append, hj']
      rw [e1, e2]
      exact (hown.2.2 j hj').grownC hown.1 h3
    · obtain rfl : j = l.length := by simp at hj; omega
      have e1 : (ps ++ [p]).getD l.length default = p := by rw [← hown.2.1]; simp
      have e2 : cth (l ++ [C]) l.length = C := by simp [cth]
      rw [e1, e2]
      exact hA.grownC hown.1 h3
  have hbel : Below B w w' := ⟨h3.os, h3.tape, h3.output, h3.size, fun k hk => h3.block k (by omega) (fun e => by have := (own_lt hown.1 k e.symm).1; omega)⟩
  unfold Oper.wp execOp
  simp only [ho, resolve, invoke, builtin, Sem.run_bind, Sem.run_pure, Result.andThen_ok, List.map_toArray, List.map_cons, List.map_nil, hs, hx, hrun]
  exact hK _ _ (h v' w' hown' hbel)
/-- Certificates whose lists are short. -/
theorem Short.at {w : World} {p : CertP} {C : CertD} (hs : ShortC C) (h : CertR w p C) : p.h.b.n ≤ 1000000000 ∧ p.h.p.n ≤ 1000000000 ∧ p.s.n ≤ 1000000000 := by
  have h1 := h.1.1.1; have h2 := h.1.2.1; have h3 := h.2.1
  obtain ⟨s1, s2, s3⟩ := hs
  omega
def Tiny (l : List CertD) : Prop := ∀ k, k < l.length → (cth l k).h.ba.length ≤ 900000000 ∧ (cth l k).h.pa.length ≤ 900000000 ∧ (cth l k).si.length ≤ 900000000
set_option maxRecDepth 100000 in
set_option maxHeartbeats 1000000 in
theorem header_OwnCerts (A : Option Addr) (n c : Nat) (l : List CertD) (w : World) (hl : CertsR w A n l) (hn : n ≤ 900000000) (hli : Tiny l) :
    Calls Try.prog 94 #[.slice A n c] w fun e w' => ∃ v ps, e = .returned v ∧ OwnD w' w.heap.size v ps l ∧ Below w.heap.size w w' := by
  have HL := Lib.hid hl
  have hN := hl.1
  have HN := Lib.hid hN
  have HLI := Lib.hid hli
  clear hl hN hli
  go_enter Try.func94, Try.ntmps94
  go_wp2_with fail
  go_loopw [2, 7] (fun v i wr => ∃ (j : Nat) (ps : List CertP), j ≤ n ∧ i = .int .i64 j ∧ OwnD wr w.heap.size v ps (l.take j) ∧ Below w.heap.size w wr) (fun _ i _ => n - (intOf i).toNat)
  case atStart => exact ⟨0, [], Nat.zero_le _, rfl, OwnD.nil _ _, Below.refl _ _⟩
  case round =>
    obtain ⟨j, ps, hj, rfl, hown, hbw⟩ := hrel
    by_cases hlt : j < n
    · obtain ⟨b, off, rfl, hb, hc⟩ := (HL.out.up hbw).2.2 (by omega)
      obtain ⟨p, hat, hcr⟩ := hc j hlt
      obtain ⟨c0, c1, c2, c3, c4, c5⟩ := hat
      have hlj := HLI.out j (by rw [HN.out]; exact hlt)
      obtain ⟨⟨⟨bA, bn, bc⟩, ⟨pA, pn, pc⟩⟩, ⟨sA, sn, sc⟩⟩ := p
      dsimp only at c0 c1 c2 c3 c4 c5
      have hq1 : bn ≤ 900000000 := by have := hlj.1; rw [hcr.1.1.1] at this; dsimp only at this; omega
      have hq2 : pn ≤ 900000000 := by have := hlj.2.1; rw [hcr.1.2.1] at this; dsimp only at this; omega
      have hq3 : sn ≤ 900000000 := by have := hlj.2.2; rw [hcr.2.1] at this; dsimp only at this; omega
      have HCR := Lib.hid hcr
      clear hc hcr hlj
      have hlenj : (l.take j).length ≤ j := by simp; omega
      have hsz := hbw.size
      go_wp2_with fail
      refine (header_OwnCert (cth l j) bA pA sA bn bc pn pc sn sc _ (HCR.out.up (by (repeat (first | (with_reducible exact Below.refl _ _) | (with_reducible assumption) | (with_reducible apply bel_alloc) | (with_reducible apply bel_drew) | (with_reducible apply bel_drewN) | (with_reducible refine bel_trans ?_ (by with_reducible assumption)) | (with_reducible refine bel_trans ?_ (HF.out _)) | (with_reducible refine bel_set ?_ (by simp) _) | (with_reducible refine bel_set ?_ (by simp; omega) _) | (with_reducible refine bel_set ?_ (by omega) _))))) hq1 hq2 hq3).mono ?_
      rintro e w1 ⟨p, rfl, hR, hb1⟩
      have hb1w : Below wr.heap.size wr w1 := bel_trans (by (repeat (first | (with_reducible exact Below.refl _ _) | (with_reducible assumption) | (with_reducible apply bel_alloc) | (with_reducible apply bel_drew) | (with_reducible apply bel_drewN) | (with_reducible refine bel_trans ?_ (by with_reducible assumption)) | (with_reducible refine bel_trans ?_ (HF.out _)) | (with_reducible refine bel_set ?_ (by simp) _) | (with_reducible refine bel_set ?_ (by simp; omega) _) | (with_reducible refine bel_set ?_ (by omega) _)))) hb1
      have hown1 := hown.up hb1w
      have hR1 := hR.mono (B' := w.heap.size) (by simp; omega)
      have hbx := BoxR.new w1 (certCells p (cth l j)) 48
      have hb1' : Below w1.heap.size w1 (w1.alloc (.cells (certCells p (cth l j)).toArray 48)) := by (repeat (first | (with_reducible exact Below.refl _ _) | (with_reducible assumption) | (with_reducible apply bel_alloc) | (with_reducible apply bel_drew) | (with_reducible apply bel_drewN) | (with_reducible refine bel_trans ?_ (by with_reducible assumption)) | (with_reducible refine bel_trans ?_ (HF.out _)) | ((with_reducible refine bel_set3 ?_ ?_); rotate_left; omega)))
      have hsz1 := hb1w.size
      go_wp2_with (at_builtin; refine wpList_appD rfl (.tmp 11) (.tmp 14) rfl (w.heap.size) _ ps (l.take j) rfl (hown1.up hb1') _ p (cth l j) rfl hbx (hR1.up hb1') (by omega) (le_alloc (Nat.le_trans hsz hsz1)) ?_; intro v2 w2 hown2 hb2)
      (first | (go_round; (case rel => exact ⟨j + 1, ps ++ [p], by omega, by go_num, by rw [take_cth l j (by rw [HN.out]; exact hlt)]; exact hown2, Below.trans (bel_alloc (bel_trans hbw hb1w)) hb2⟩); (case measure => (simp [intOf] <;> omega))) | (go_roundw; (case rel => exact ⟨j + 1, ps ++ [p], by omega, by go_num, by rw [take_cth l j (by rw [HN.out]; exact hlt)]; exact hown2, Below.trans (bel_alloc (bel_trans hbw hb1w)) hb2⟩); (case measure => (simp [intOf] <;> omega))) | (refine ⟨?_, by simp [intOf] <;> omega⟩; (repeat apply Exists.intro); refine ⟨?rel, ?fr⟩; (case fr => ((repeat' apply And.intro) <;> rfl)); (case rel => exact ⟨j + 1, ps ++ [p], by omega, by go_num, by rw [take_cth l j (by rw [HN.out]; exact hlt)]; exact hown2, Below.trans (bel_alloc (bel_trans hbw hb1w)) hb2⟩)))
    · go_wp2_with fail
      go_ret
      have e : l.take j = l := List.take_of_length_le (by rw [HN.out]; omega)
      exact ⟨_, _, rfl, e ▸ hown, hbw⟩
set_option maxRecDepth 100000 in
set_option maxHeartbeats 1000000 in
theorem dag_Own (A : Option Addr) (n c : Nat) (D : DagD) (w : World) (hl : CertsR w A n D.certs) (hn : n ≤ 900000000) (hli : Tiny D.certs) :
    Calls Try.prog 85 #[.agg #[.int .i64 D.nodes, .int .i64 D.low, .slice A n c]] w fun e w' => ∃ v ps, e = .returned (.agg #[.int .i64 D.nodes, .int .i64 D.low, v]) ∧ OwnD w' w.heap.size v ps D.certs ∧ Below w.heap.size w w' := by
  have HL := Lib.hid hl
  have HN := Lib.hid hl.1
  have HLI := Lib.hid hli
  clear hl hli
  go_enter Try.func85, Try.ntmps85
  go_wp2_with fail
  refine (header_OwnCerts A n c D.certs _ (HL.out.up (by (repeat (first | (with_reducible exact Below.refl _ _) | (with_reducible assumption) | (with_reducible apply bel_alloc) | (with_reducible apply bel_drew) | (with_reducible apply bel_drewN) | (with_reducible refine bel_trans ?_ (by with_reducible assumption)) | (with_reducible refine bel_trans ?_ (HF.out _)) | ((with_reducible refine bel_set3 ?_ ?_); rotate_left; omega))))) hn HLI.out).mono ?_
  rintro e w1 ⟨v, ps, rfl, hown, hb1⟩
  obtain ⟨A1, c1, rfl, _⟩ := own_row hown.1 (by have := HN.out; omega)
  have ho := hown.mono (B' := w.heap.size + 2) (by simp)
  have HO := Lib.hid ho
  clear hown ho
  have hz_w1 : w.heap.size + 2 ≤ w1.heap.size := (by have hq := (hb1).size; (try simp at hq); omega); have hc0_w1 := fun o => (bcell hb1).1 (w.heap.size) o (by first | (simp; done) | (simp; omega) | omega); have hc1_w1 := fun o => (bcell hb1).1 (w.heap.size + 1) o (by first | (simp; done) | (simp; omega) | omega); have hf0_w1 := fun o => (bcell hb1).2 (w.heap.size) o (by first | (simp; done) | (simp; omega) | omega); have hf1_w1 := fun o => (bcell hb1).2 (w.heap.size + 1) o (by first | (simp; done) | (simp; omega) | omega)
  go_wp2_with fail
  exact bodyPost_ret (v := .agg #[.int .i64 D.nodes, .int .i64 D.low, .slice A1 D.certs.length c1]) (by simp [results, Try.results85, go_sem, hc0_w1, hc1_w1]) rfl ⟨_, ps, rfl, OwnD.mono ((((HO.out.setLow (by omega)).setLow (by omega)).setLow (by omega)).setLow (by omega)) (by omega), by (repeat (first | (with_reducible exact Below.refl _ _) | (with_reducible assumption) | (with_reducible apply bel_alloc) | (with_reducible apply bel_drew) | (with_reducible apply bel_drewN) | (with_reducible refine bel_trans ?_ (by with_reducible assumption)) | (with_reducible refine bel_trans ?_ (HF.out _)) | ((with_reducible refine bel_set3 ?_ ?_); rotate_left; omega)))⟩
end Go.Proofs.Ytfkbilbgndekkaa
