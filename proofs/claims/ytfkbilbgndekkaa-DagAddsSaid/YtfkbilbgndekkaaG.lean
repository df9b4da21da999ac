/- path.Down, Reaches, Reach. -/
import Derived.Test.YtfkbilbgndekkaaE
import Derived.Test.YtfkbilbgndekkaaO
namespace Go.Proofs.Ytfkbilbgndekkaa
open Go.RowKit
set_option linter.unusedSimpArgs false
set_option linter.unusedVariables false

/-- What is reached: R, and the numbers l. -/
def Radd (R : Int → Bool) (l : List Int) : Int → Bool := fun x => R x || decide (x ∈ l)
theorem Radd_nil (R : Int → Bool) : Radd R [] = R := by funext x; simp [Radd]
theorem Radd_snoc (R : Int → Bool) (l : List Int) (y : Int) : (fun m => if m = y then true else Radd R l m) = Radd R (l ++ [y]) := by
  funext m; by_cases h : m = y <;> simp [Radd, h]
/-- The digests that a walk down from place m - 1 tells. -/
def downL (certs : List CertD) (dlow low : Int) : Nat → (Int → Bool) → List Int
  | 0, _ => []
  | m + 1, R =>
    if (cth certs m).h.ro ≤ low then [] else
    if R (cth certs m).di then (cth certs m).di :: downL certs dlow low m (if dlow + 1 < (cth certs m).h.ro then Radd R (cth certs m).h.pa else R)
    else downL certs dlow low m R
def downS (certs : List CertD) (dlow : Int) (i : Nat) (low : Int) : List Int := downL certs dlow low (i + 1) (fun x => if x = (cth certs i).di then true else false)
theorem downL_ge (certs : List CertD) (dlow low : Int) (m : Nat) (R : Int → Bool) (h : (cth certs m).h.ro ≤ low) : downL certs dlow low (m + 1) R = [] := by simp [downL, h]
theorem downL_no (certs : List CertD) (dlow low : Int) (m : Nat) (R : Int → Bool) (h : ¬ (cth certs m).h.ro ≤ low) (hr : R (cth certs m).di = false) : downL certs dlow low (m + 1) R = downL certs dlow low m R := by simp [downL, h, hr]
theorem downL_yes (certs : List CertD) (dlow low : Int) (m : Nat) (R : Int → Bool) (h : ¬ (cth certs m).h.ro ≤ low) (hr : R (cth certs m).di = true) : downL certs dlow low (m + 1) R = (cth certs m).di :: downL certs dlow low m (if dlow + 1 < (cth certs m).h.ro then Radd R (cth certs m).h.pa else R) := by simp [downL, h, hr]

structure DownF (b off n c : Nat) (certs : List CertD) (nodes dlow low : Int) (i : Nat) (w : World) (m : Nat) (acc : List Int) (R : Int → Bool) (v x0 x1 x2 x3 x4 x5 : Value) (w' : World) : Prop where
  hm : m ≤ i + 1
  hacc : acc.length + m ≤ i + 1
  full : acc ++ downL certs dlow low m R = downS certs dlow i low
  bel : Below w.heap.size w w'
  sz : w.heap.size + 3 ≤ w'.heap.size
  box : BoxR w' w.heap.size [.int .i64 nodes, .int .i64 dlow, .slice (some ⟨b, off, none⟩) n c]
  map : MapR Value.bool false w' (w.heap.size + 1) R
  blk : Blk w' (w.heap.size + 2) 48 [x0, x1, x2, x3, x4, x5]
  own : OwnI w' (w.heap.size + 3) v acc
def DownJ (b off n c : Nat) (certs : List CertD) (nodes dlow low : Int) (i : Nat) (w : World) (a' : Act) (w' : World) : Prop :=
  ∃ (m : Nat) (acc : List Int) (R : Int → Bool) (v x0 x1 x2 x3 x4 x5 : Value) (u4 u5 u10 u11 u12 u13 u14 u15 u16 u17 u18 u19 u20 u21 u22 u23 u24 u25 u26 u27 u28 u29 u30 u31 u32 u33 u34 u35 u36 u37 u38 u39 u40 u41 u42 u43 u44 u45 u46 u47 u48 u49 u50 u51 u52 u53 u54 u55 u56 u57 u58 u59 u60 u61 u62 u63 : Value), a' = { tmps := #[.agg #[.int .i64 nodes, .int .i64 dlow, .slice (some ⟨b, off, none⟩) n c], .int .i64 i, .int .i64 low, .pointer (some ⟨w.heap.size, 0, none⟩), u4, u5, v, .map (some (w.heap.size + 1)), .pointer (some ⟨w.heap.size + 2, 0, none⟩), .int .i64 ((m : Int) - 1), u10, u11, u12, u13, u14, u15, u16, u17, u18, u19, u20, u21, u22, u23, u24, u25, u26, u27, u28, u29, u30, u31, u32, u33, u34, u35, u36, u37, u38, u39, u40, u41, u42, u43, u44, u45, u46, u47, u48, u49, u50, u51, u52, u53, u54, u55, u56, u57, u58, u59, u60, u61, u62, u63], defers := [] } ∧ DownF b off n c certs nodes dlow low i w m acc R v x0 x1 x2 x3 x4 x5 w'
theorem DownJ.mk {b off n c : Nat} {certs : List CertD} {nodes dlow low : Int} {i : Nat} {w : World} {ix : Int} {m : Nat} {acc : List Int} {R : Int → Bool} {v x0 x1 x2 x3 x4 x5 : Value} {u4 u5 u10 u11 u12 u13 u14 u15 u16 u17 u18 u19 u20 u21 u22 u23 u24 u25 u26 u27 u28 u29 u30 u31 u32 u33 u34 u35 u36 u37 u38 u39 u40 u41 u42 u43 u44 u45 u46 u47 u48 u49 u50 u51 u52 u53 u54 u55 u56 u57 u58 u59 u60 u61 u62 u63 : Value} {w' : World}
    (h : DownF b off n c certs nodes dlow low i w m acc R v x0 x1 x2 x3 x4 x5 w') (hix : ix = (m : Int) - 1) : DownJ b off n c certs nodes dlow low i w { tmps := #[.agg #[.int .i64 nodes, .int .i64 dlow, .slice (some ⟨b, off, none⟩) n c], .int .i64 i, .int .i64 low, .pointer (some ⟨w.heap.size, 0, none⟩), u4, u5, v, .map (some (w.heap.size + 1)), .pointer (some ⟨w.heap.size + 2, 0, none⟩), .int .i64 ix, u10, u11, u12, u13, u14, u15, u16, u17, u18, u19, u20, u21, u22, u23, u24, u25, u26, u27, u28, u29, u30, u31, u32, u33, u34, u35, u36, u37, u38, u39, u40, u41, u42, u43, u44, u45, u46, u47, u48, u49, u50, u51, u52, u53, u54, u55, u56, u57, u58, u59, u60, u61, u62, u63], defers := [] } w' :=
  hix ▸ ⟨m, acc, R, v, x0, x1, x2, x3, x4, x5, _, _, _, _, _, _, _, _, _, _, _, _, _, _, _, _, _, _, _, _, _, _, _, _, _, _, _, _, _, _, _, _, _, _, _, _, _, _, _, _, _, _, _, _, _, _, _, _, _, _, _, _, _, _, _, _, rfl, h⟩
def DownE (certs : List CertD) (dlow low : Int) (i : Nat) (w : World) (a' : Act) (w' : World) : Prop :=
  ∃ (v : Value) (u0 u1 u2 u3 u4 u5 u7 u8 u9 u10 u11 u12 u13 u14 u15 u16 u17 u18 u19 u20 u21 u22 u23 u24 u25 u26 u27 u28 u29 u30 u31 u32 u33 u34 u35 u36 u37 u38 u39 u40 u41 u42 u43 u44 u45 u46 u47 u48 u49 u50 u51 u52 u53 u54 u55 u56 u57 u58 u59 u60 u61 u62 u63 : Value), a' = { tmps := #[u0, u1, u2, u3, u4, u5, v, u7, u8, u9, u10, u11, u12, u13, u14, u15, u16, u17, u18, u19, u20, u21, u22, u23, u24, u25, u26, u27, u28, u29, u30, u31, u32, u33, u34, u35, u36, u37, u38, u39, u40, u41, u42, u43, u44, u45, u46, u47, u48, u49, u50, u51, u52, u53, u54, u55, u56, u57, u58, u59, u60, u61, u62, u63], defers := [] } ∧ OwnI w' w.heap.size v (downS certs dlow i low) ∧ Below w.heap.size w w'
theorem DownE.mk {certs : List CertD} {dlow low : Int} {i : Nat} {w : World} {v : Value} {u0 u1 u2 u3 u4 u5 u7 u8 u9 u10 u11 u12 u13 u14 u15 u16 u17 u18 u19 u20 u21 u22 u23 u24 u25 u26 u27 u28 u29 u30 u31 u32 u33 u34 u35 u36 u37 u38 u39 u40 u41 u42 u43 u44 u45 u46 u47 u48 u49 u50 u51 u52 u53 u54 u55 u56 u57 u58 u59 u60 u61 u62 u63 : Value} {w' : World}
    (h : OwnI w' w.heap.size v (downS certs dlow i low)) (hb : Below w.heap.size w w') : DownE certs dlow low i w { tmps := #[u0, u1, u2, u3, u4, u5, v, u7, u8, u9, u10, u11, u12, u13, u14, u15, u16, u17, u18, u19, u20, u21, u22, u23, u24, u25, u26, u27, u28, u29, u30, u31, u32, u33, u34, u35, u36, u37, u38, u39, u40, u41, u42, u43, u44, u45, u46, u47, u48, u49, u50, u51, u52, u53, u54, u55, u56, u57, u58, u59, u60, u61, u62, u63], defers := [] } w' :=
  ⟨v, _, _, _, _, _, _, _, _, _, _, _, _, _, _, _, _, _, _, _, _, _, _, _, _, _, _, _, _, _, _, _, _, _, _, _, _, _, _, _, _, _, _, _, _, _, _, _, _, _, _, _, _, _, _, _, _, _, _, _, _, _, _, _, rfl, h, hb⟩
set_option maxRecDepth 100000 in
set_option maxHeartbeats 400000 in
theorem path_Down (b off n c : Nat) (certs : List CertD) (nodes dlow low : Int) (i : Nat) (w : World) (hl : CertsR w (some ⟨b, off, none⟩) n certs) (hi : i < n) (hn : n ≤ 65536) (hlo1 : -9223372036854775808 ≤ dlow) (hlo2 : dlow ≤ 1099511627776) :
    Calls Try.prog 105 #[.agg #[.int .i64 nodes, .int .i64 dlow, .slice (some ⟨b, off, none⟩) n c], .int .i64 i, .int .i64 low] w fun e w' => ∃ v, e = .returned v ∧ OwnI w' w.heap.size v (downS certs dlow i low) ∧ Below w.heap.size w w' := by
  obtain ⟨h1, h2, h3⟩ := hl
  have H1 := Lib.hid h1; clear h1
  obtain ⟨b', off', e', hb, hc⟩ := h3 (by omega)
  injection e' with e'; injection e' with e1 e2 e3; subst e1; subst e2; clear e3 h3
  have HC0 := Lib.hid hc
  obtain ⟨p0, hat0, _⟩ := hc i hi
  have hdi := hat0.2.2.2.2.1
  clear hat0 hc
  have hmm := @run_makeMap Try.prog
  go_enter Try.func105, Try.ntmps105
  go_wp2
  refine wp_scope_two 0 1 (DownE certs dlow low i w) (DownJ b off n c certs nodes dlow low i w) (fun a' _ => (intOf (a'.tmps.getD 9 undef) + 1).toNat) rfl rfl ?_ ?_ ?_
  · intro hpass
    go_wp2_with (refine wpList_mapUpd Value.bool false rfl _ _ _ 125 3 4 (.inr rfl) Try.underlying125 Try.underlying3 (S := fun _ => false) (g := w.heap.size + 1) (MapR.made' (by simp) rfl) rfl _ rfl true rfl ?_; intro w2 hM2 hg2 hsz2)
    rename_i K hK
    apply wp_label
    apply hK
    have e2 : w2.heap.size = w.heap.size + 2 := by rw [hsz2]; simp
    have hb2 : Below w.heap.size w w2 := bel_grown (by (repeat (first | (with_reducible exact Below.refl _ _) | (with_reducible assumption) | (with_reducible apply bel_alloc) | (with_reducible apply bel_drew) | (with_reducible apply bel_drewN) | (with_reducible refine bel_trans ?_ (by with_reducible assumption)) | (with_reducible refine bel_trans ?_ (HF.out _)) | (with_reducible refine bel_set ?_ (by simp) _) | (with_reducible refine bel_set ?_ (by simp; omega) _) | (with_reducible refine bel_set ?_ (by omega) _)))) hg2 (by omega)
    have hF : DownF b off n c certs nodes dlow low i w (i + 1) [] (fun x => if x = (cth certs i).di then true else false) (.slice none 0 0) (.int .i64 0) (.int .i64 0) (.slice none 0 0) (.slice none 0 0) (.int .i64 0) (.slice none 0 0)
        (w2.alloc (.cells #[.int .i64 0, .int .i64 0, .slice none 0 0, .slice none 0 0, .int .i64 0, .slice none 0 0] 48)) :=
      { hm := Nat.le_refl _, hacc := by simp, full := rfl, bel := bel_alloc hb2, sz := by simp [e2]
        box := (((BoxR.new w [.int .i64 nodes, .int .i64 dlow, .slice (some ⟨b, off, none⟩) n c] 24).up (by (repeat (first | (with_reducible exact Below.refl _ _) | (with_reducible assumption) | (with_reducible apply bel_alloc) | (with_reducible apply bel_drew) | (with_reducible apply bel_drewN) | (with_reducible refine bel_trans ?_ (by with_reducible assumption)) | (with_reducible refine bel_trans ?_ (HF.out _)) | (with_reducible refine bel_set ?_ (by simp) _) | (with_reducible refine bel_set ?_ (by simp; omega) _) | (with_reducible refine bel_set ?_ (by omega) _))))).grown hg2 (by omega)).up (by (repeat (first | (with_reducible exact Below.refl _ _) | (with_reducible assumption) | (with_reducible apply bel_alloc) | (with_reducible apply bel_drew) | (with_reducible apply bel_drewN) | (with_reducible refine bel_trans ?_ (by with_reducible assumption)) | (with_reducible refine bel_trans ?_ (HF.out _)) | (with_reducible refine bel_set ?_ (by simp) _) | (with_reducible refine bel_set ?_ (by simp; omega) _) | (with_reducible refine bel_set ?_ (by omega) _))))
        map := hM2.up (by (repeat (first | (with_reducible exact Below.refl _ _) | (with_reducible assumption) | (with_reducible apply bel_alloc) | (with_reducible apply bel_drew) | (with_reducible apply bel_drewN) | (with_reducible refine bel_trans ?_ (by with_reducible assumption)) | (with_reducible refine bel_trans ?_ (HF.out _)) | (with_reducible refine bel_set ?_ (by simp) _) | (with_reducible refine bel_set ?_ (by simp; omega) _) | (with_reducible refine bel_set ?_ (by omega) _))))
        blk := by rw [← e2]; exact Blk.new w2 _ _
        own := OwnI.nil _ _ }
    exact hpass _ _ (DownJ.mk hF (by omega))
  · rintro a' w' ⟨m, acc, R, v, x0, x1, x2, x3, x4, x5, u4, u5, u10, u11, u12, u13, u14, u15, u16, u17, u18, u19, u20, u21, u22, u23, u24, u25, u26, u27, u28, u29, u30, u31, u32, u33, u34, u35, u36, u37, u38, u39, u40, u41, u42, u43, u44, u45, u46, u47, u48, u49, u50, u51, u52, u53, u54, u55, u56, u57, u58, u59, u60, u61, u62, u63, rfl, hF⟩
    have bx_0 := (hF.box).2 0 _ rfl; have bx_1 := (hF.box).2 1 _ rfl; have bx_2 := (hF.box).2 2 _ rfl
    cases m with
    | zero =>
      go_wp2
      apply wp_goto
      exact .inl ⟨rfl, DownE.mk ((by have := hF.full; simpa [downL] using this : acc = _) ▸ hF.own.mono (by omega)) hF.bel⟩
    | succ k =>
      rw [show ((k + 1 : Nat) : Int) - 1 = (k : Int) by omega]
      obtain ⟨p, hat, hcr⟩ := HC0.out k (by have := hF.hm; omega)
      obtain ⟨c0, c1, c2, c3, c4, c5⟩ := hat.up hF.bel hb
      obtain ⟨⟨⟨bA, bn, bc⟩, ⟨pA, pn, pc⟩⟩, ⟨sA, sn, sc⟩⟩ := p
      dsimp only at c0 c1 c2 c3 c4 c5
      clear hat
      have HCR := Lib.hid hcr; clear hcr
      have hkn : k < n := by have := hF.hm; omega
      have hkm := hF.hm
      have hka := hF.hacc
      have hks := hF.sz
      have hpnb : pn ≤ 9223372036854775807 := HCR.out.1.2.2.1
      by_cases hlow : (cth certs k).h.ro ≤ low
      · go_wp2_with (refine wpList_storeBlk rfl (.tmp 8) (.tmp 27) 48 rfl (w.heap.size + 2) 48 [x0, x1, x2, x3, x4, x5] [.int .i64 (cth certs k).h.au, .int .i64 (cth certs k).h.ro, .slice bA bn bc, .slice pA pn pc, .int .i64 (cth certs k).di, .slice sA sn sc] (by kernel_rfl) hF.blk rfl rfl rfl rfl ?_; intro w2 hblk_w2 hg_w2 hsz_w2; have hsl_w2 := hg_w2.size; clear hsz_w2; have hbox2 := hF.box.grown hg_w2 (by omega); have by_0 := (hbox2).2 0 _ rfl; have by_1 := (hbox2).2 1 _ rfl; have by_2 := (hbox2).2 2 _ rfl; have cy_0 := (hblk_w2.box).2 0 _ rfl; have cy_1 := (hblk_w2.box).2 1 _ rfl; have cy_2 := (hblk_w2.box).2 2 _ rfl; have cy_3 := (hblk_w2.box).2 3 _ rfl; have cy_4 := (hblk_w2.box).2 4 _ rfl; have cy_5 := (hblk_w2.box).2 5 _ rfl; have hmap2 := hF.map.grown hg_w2 (by omega); have hl2 := fun x => hmap2.lookup (P := Try.prog) Try.underlying125 Try.underlying3 (by kernel_rfl) x; have hown2 := hF.own.grown hg_w2 (by omega); have hbel2 : Below w.heap.size w w2 := bel_grown hF.bel hg_w2 (by omega))
        apply wp_goto
        have hacc : acc = downS certs dlow i low := by have := hF.full; rw [downL_ge _ _ _ _ _ hlow] at this; simpa using this
        exact .inl ⟨rfl, DownE.mk ((hacc ▸ hown2).mono (by omega)) hbel2⟩
      · cases hR : R (cth certs k).di
        · go_wp2_with (refine wpList_storeBlk rfl (.tmp 8) (.tmp 27) 48 rfl (w.heap.size + 2) 48 [x0, x1, x2, x3, x4, x5] [.int .i64 (cth certs k).h.au, .int .i64 (cth certs k).h.ro, .slice bA bn bc, .slice pA pn pc, .int .i64 (cth certs k).di, .slice sA sn sc] (by kernel_rfl) hF.blk rfl rfl rfl rfl ?_; intro w2 hblk_w2 hg_w2 hsz_w2; have hsl_w2 := hg_w2.size; clear hsz_w2; have hbox2 := hF.box.grown hg_w2 (by omega); have by_0 := (hbox2).2 0 _ rfl; have by_1 := (hbox2).2 1 _ rfl; have by_2 := (hbox2).2 2 _ rfl; have cy_0 := (hblk_w2.box).2 0 _ rfl; have cy_1 := (hblk_w2.box).2 1 _ rfl; have cy_2 := (hblk_w2.box).2 2 _ rfl; have cy_3 := (hblk_w2.box).2 3 _ rfl; have cy_4 := (hblk_w2.box).2 4 _ rfl; have cy_5 := (hblk_w2.box).2 5 _ rfl; have hmap2 := hF.map.grown hg_w2 (by omega); have hl2 := fun x => hmap2.lookup (P := Try.prog) Try.underlying125 Try.underlying3 (by kernel_rfl) x; have hown2 := hF.own.grown hg_w2 (by omega); have hbel2 : Below w.heap.size w w2 := bel_grown hF.bel hg_w2 (by omega))
          apply wp_goto
          refine .inr ⟨rfl, DownJ.mk (m := k) (acc := acc) (R := R) { hm := by omega, hacc := by omega, full := ?full, bel := hbel2, sz := by omega, box := hbox2, map := hmap2, blk := hblk_w2, own := hown2 } (by omega), ?meas⟩
          case full => have := hF.full; rw [downL_no _ _ _ _ _ (by omega) hR] at this; exact this
          case meas => simp [intOf]
        · by_cases hpar : dlow + 1 < (cth certs k).h.ro
          · go_wp2_with (first
              | (refine wpList_storeBlk rfl (.tmp 8) (.tmp 27) 48 rfl (w.heap.size + 2) 48 [x0, x1, x2, x3, x4, x5] [.int .i64 (cth certs k).h.au, .int .i64 (cth certs k).h.ro, .slice bA bn bc, .slice pA pn pc, .int .i64 (cth certs k).di, .slice sA sn sc] (by kernel_rfl) hF.blk rfl rfl rfl rfl ?_; intro w2 hblk_w2 hg_w2 hsz_w2; have hsl_w2 := hg_w2.size; clear hsz_w2; have hbox2 := hF.box.grown hg_w2 (by omega); have by_0 := (hbox2).2 0 _ rfl; have by_1 := (hbox2).2 1 _ rfl; have by_2 := (hbox2).2 2 _ rfl; have cy_0 := (hblk_w2.box).2 0 _ rfl; have cy_1 := (hblk_w2.box).2 1 _ rfl; have cy_2 := (hblk_w2.box).2 2 _ rfl; have cy_3 := (hblk_w2.box).2 3 _ rfl; have cy_4 := (hblk_w2.box).2 4 _ rfl; have cy_5 := (hblk_w2.box).2 5 _ rfl; have hmap2 := hF.map.grown hg_w2 (by omega); have hl2 := fun x => hmap2.lookup (P := Try.prog) Try.underlying125 Try.underlying3 (by kernel_rfl) x; have hown2 := hF.own.grown hg_w2 (by omega); have hbel2 : Below w.heap.size w w2 := bel_grown hF.bel hg_w2 (by omega))
              | (at_builtin; go_loud (refine wpList_app1 rfl (.tmp 40) (.tmp 43) rfl (w.heap.size + 3) v acc rfl (hown2.alloc _) _ (cth certs k).di rfl (cell0_alloc _ _ _) (by omega) (le_alloc (by omega)) ?_); intro v1 w1 hown1 hg1 hbel1 hat1; have hbox1 := (hbox2.up (by (repeat (first | (with_reducible exact Below.refl _ _) | (with_reducible assumption) | (with_reducible apply bel_alloc) | (with_reducible apply bel_drew) | (with_reducible apply bel_drewN) | (with_reducible refine bel_trans ?_ (by with_reducible assumption)) | (with_reducible refine bel_trans ?_ (HF.out _)) | (with_reducible refine bel_set ?_ (by simp) _) | (with_reducible refine bel_set ?_ (by simp; omega) _) | (with_reducible refine bel_set ?_ (by omega) _))))).below hbel1 (by omega); have bz_0 := (hbox1).2 0 _ rfl; have bz_1 := (hbox1).2 1 _ rfl; have bz_2 := (hbox1).2 2 _ rfl; have hblk1 := (hblk_w2.up (by (repeat (first | (with_reducible exact Below.refl _ _) | (with_reducible assumption) | (with_reducible apply bel_alloc) | (with_reducible apply bel_drew) | (with_reducible apply bel_drewN) | (with_reducible refine bel_trans ?_ (by with_reducible assumption)) | (with_reducible refine bel_trans ?_ (HF.out _)) | (with_reducible refine bel_set ?_ (by simp) _) | (with_reducible refine bel_set ?_ (by simp; omega) _) | (with_reducible refine bel_set ?_ (by omega) _))))).below hbel1 (by omega); have cz_0 := (hblk1.box).2 0 _ rfl; have cz_1 := (hblk1.box).2 1 _ rfl; have cz_2 := (hblk1.box).2 2 _ rfl; have cz_3 := (hblk1.box).2 3 _ rfl; have cz_4 := (hblk1.box).2 4 _ rfl; have cz_5 := (hblk1.box).2 5 _ rfl; have hmap1 := (hmap2.up (by (repeat (first | (with_reducible exact Below.refl _ _) | (with_reducible assumption) | (with_reducible apply bel_alloc) | (with_reducible apply bel_drew) | (with_reducible apply bel_drewN) | (with_reducible refine bel_trans ?_ (by with_reducible assumption)) | (with_reducible refine bel_trans ?_ (HF.out _)) | (with_reducible refine bel_set ?_ (by simp) _) | (with_reducible refine bel_set ?_ (by simp; omega) _) | (with_reducible refine bel_set ?_ (by omega) _))))).below hbel1 (by omega); have hbw1 : Below w.heap.size w w1 := (bel_alloc hbel2).trans (hbel1.mono (by omega))))
            go_loopw [56] (fun i wr => ∃ j : Nat, j ≤ pn ∧ i = .int .i64 j ∧ w1.grownBy wr (some (w.heap.size + 1)) ∧ MapR Value.bool false wr (w.heap.size + 1) (Radd R ((cth certs k).h.pa.take j))) (fun i _ => pn - (intOf i).toNat)
            case atStart => exact ⟨0, Nat.zero_le _, rfl, World.grownBy.refl _ _, by rw [List.take_zero, Radd_nil]; exact hmap1⟩
            case round =>
              obtain ⟨j, hj, rfl, hgr, hmr⟩ := hrel
              have hbr : Below w.heap.size w wr := bel_grown hbw1 hgr (by omega)
              have hlen : (cth certs k).h.pa.length = pn := HCR.out.1.2.1
              have HN := Lib.hid hlen; clear hlen
              by_cases hlt : j < pn
              · obtain ⟨b2, off2, rfl, hb2, hcc⟩ := (HCR.out.1.2.up hbr).2.2 (Nat.lt_of_le_of_lt (Nat.zero_le j) hlt)
                have hcm := hcc j hlt
                clear hcc
                go_wp2_with (at_mapUpdate; refine wpList_mapUpd Value.bool false rfl _ _ _ 125 3 4 (.inl rfl) Try.underlying125 Try.underlying3 hmr rfl _ rfl true rfl ?_; intro w3 hM3 hg3 hsz3; clear hsz3)
                (first | (go_round; (case rel => exact ⟨j + 1, by omega, by go_num, hgr.trans hg3, by rw [take_nth _ _ (by rw [HN.out]; exact hlt), ← Radd_snoc]; exact hM3⟩); (case measure => (simp [intOf] <;> omega))) | (go_roundw; (case rel => exact ⟨j + 1, by omega, by go_num, hgr.trans hg3, by rw [take_nth _ _ (by rw [HN.out]; exact hlt), ← Radd_snoc]; exact hM3⟩); (case measure => (simp [intOf] <;> omega))) | (refine ⟨?_, by simp [intOf] <;> omega⟩; (repeat apply Exists.intro); refine ⟨?rel, ?fr⟩; (case fr => ((repeat' apply And.intro) <;> rfl)); (case rel => exact ⟨j + 1, by omega, by go_num, hgr.trans hg3, by rw [take_nth _ _ (by rw [HN.out]; exact hlt), ← Radd_snoc]; exact hM3⟩)))
              · go_wp2
                apply wp_goto
                have hjn : (cth certs k).h.pa.take j = (cth certs k).h.pa := List.take_of_length_le (by rw [HN.out]; omega)
                rw [hjn] at hmr
                refine .inr ⟨rfl, DownJ.mk (m := k) (acc := acc ++ [(cth certs k).di]) { hm := by omega, hacc := by simp; omega, full := ?full, bel := hbr, sz := by have := hbel1.size; have := hgr.size; simp at *; omega, box := hbox1.grown hgr (by omega), map := hmr, blk := hblk1.grown hgr (by omega), own := hown1.grown hgr (by omega) } (by omega), ?meas⟩
                case full => have := hF.full; rw [downL_yes _ _ _ _ _ (by omega) hR, if_pos hpar] at this; simpa using this
                case meas => simp [intOf]
          · go_wp2_with (first
              | (refine wpList_storeBlk rfl (.tmp 8) (.tmp 27) 48 rfl (w.heap.size + 2) 48 [x0, x1, x2, x3, x4, x5] [.int .i64 (cth certs k).h.au, .int .i64 (cth certs k).h.ro, .slice bA bn bc, .slice pA pn pc, .int .i64 (cth certs k).di, .slice sA sn sc] (by kernel_rfl) hF.blk rfl rfl rfl rfl ?_; intro w2 hblk_w2 hg_w2 hsz_w2; have hsl_w2 := hg_w2.size; clear hsz_w2; have hbox2 := hF.box.grown hg_w2 (by omega); have by_0 := (hbox2).2 0 _ rfl; have by_1 := (hbox2).2 1 _ rfl; have by_2 := (hbox2).2 2 _ rfl; have cy_0 := (hblk_w2.box).2 0 _ rfl; have cy_1 := (hblk_w2.box).2 1 _ rfl; have cy_2 := (hblk_w2.box).2 2 _ rfl; have cy_3 := (hblk_w2.box).2 3 _ rfl; have cy_4 := (hblk_w2.box).2 4 _ rfl; have cy_5 := (hblk_w2.box).2 5 _ rfl; have hmap2 := hF.map.grown hg_w2 (by omega); have hl2 := fun x => hmap2.lookup (P := Try.prog) Try.underlying125 Try.underlying3 (by kernel_rfl) x; have hown2 := hF.own.grown hg_w2 (by omega); have hbel2 : Below w.heap.size w w2 := bel_grown hF.bel hg_w2 (by omega))
              | (at_builtin; go_loud (refine wpList_app1 rfl (.tmp 40) (.tmp 43) rfl (w.heap.size + 3) v acc rfl (hown2.alloc _) _ (cth certs k).di rfl (cell0_alloc _ _ _) (by omega) (le_alloc (by omega)) ?_); intro v1 w1 hown1 hg1 hbel1 hat1; have hbox1 := (hbox2.up (by (repeat (first | (with_reducible exact Below.refl _ _) | (with_reducible assumption) | (with_reducible apply bel_alloc) | (with_reducible apply bel_drew) | (with_reducible apply bel_drewN) | (with_reducible refine bel_trans ?_ (by with_reducible assumption)) | (with_reducible refine bel_trans ?_ (HF.out _)) | (with_reducible refine bel_set ?_ (by simp) _) | (with_reducible refine bel_set ?_ (by simp; omega) _) | (with_reducible refine bel_set ?_ (by omega) _))))).below hbel1 (by omega); have bz_0 := (hbox1).2 0 _ rfl; have bz_1 := (hbox1).2 1 _ rfl; have bz_2 := (hbox1).2 2 _ rfl; have hblk1 := (hblk_w2.up (by (repeat (first | (with_reducible exact Below.refl _ _) | (with_reducible assumption) | (with_reducible apply bel_alloc) | (with_reducible apply bel_drew) | (with_reducible apply bel_drewN) | (with_reducible refine bel_trans ?_ (by with_reducible assumption)) | (with_reducible refine bel_trans ?_ (HF.out _)) | (with_reducible refine bel_set ?_ (by simp) _) | (with_reducible refine bel_set ?_ (by simp; omega) _) | (with_reducible refine bel_set ?_ (by omega) _))))).below hbel1 (by omega); have cz_0 := (hblk1.box).2 0 _ rfl; have cz_1 := (hblk1.box).2 1 _ rfl; have cz_2 := (hblk1.box).2 2 _ rfl; have cz_3 := (hblk1.box).2 3 _ rfl; have cz_4 := (hblk1.box).2 4 _ rfl; have cz_5 := (hblk1.box).2 5 _ rfl; have hmap1 := (hmap2.up (by (repeat (first | (with_reducible exact Below.refl _ _) | (with_reducible assumption) | (with_reducible apply bel_alloc) | (with_reducible apply bel_drew) | (with_reducible apply bel_drewN) | (with_reducible refine bel_trans ?_ (by with_reducible assumption)) | (with_reducible refine bel_trans ?_ (HF.out _)) | (with_reducible refine bel_set ?_ (by simp) _) | (with_reducible refine bel_set ?_ (by simp; omega) _) | (with_reducible refine bel_set ?_ (by omega) _))))).below hbel1 (by omega); have hbw1 : Below w.heap.size w w1 := (bel_alloc hbel2).trans (hbel1.mono (by omega))))
            apply wp_goto
            refine .inr ⟨rfl, DownJ.mk (m := k) (acc := acc ++ [(cth certs k).di]) { hm := by omega, hacc := by simp; omega, full := ?full, bel := hbw1, sz := by have := hbel1.size; simp at this; omega, box := hbox1, map := hmap1, blk := hblk1, own := hown1 } (by omega), ?meas⟩
            case full => have := hF.full; rw [downL_yes _ _ _ _ _ (by omega) hR, if_neg (by omega)] at this; simpa using this
            case meas => simp [intOf]
  · rintro a' w' ⟨v, u0, u1, u2, u3, u4, u5, u7, u8, u9, u10, u11, u12, u13, u14, u15, u16, u17, u18, u19, u20, u21, u22, u23, u24, u25, u26, u27, u28, u29, u30, u31, u32, u33, u34, u35, u36, u37, u38, u39, u40, u41, u42, u43, u44, u45, u46, u47, u48, u49, u50, u51, u52, u53, u54, u55, u56, u57, u58, u59, u60, u61, u62, u63, rfl, hown, hbw⟩
    go_wp2
    simp only [Exit.noGoto]
    go_ret
    exact ⟨_, rfl, hown, hbw⟩
end Go.Proofs.Ytfkbilbgndekkaa
