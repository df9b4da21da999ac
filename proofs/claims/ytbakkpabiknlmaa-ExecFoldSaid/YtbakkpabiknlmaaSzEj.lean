/- Exec at the program: Run. -/
import Derived.Test.YtbakkpabiknlmaaSzEi
namespace Go.Proofs.Ytbakkpabiknlmaa
open Go.RowKit
set_option linter.unusedSimpArgs false
set_option linter.unusedVariables false

/-- What is executed of what was seen: the table behind it, how many. -/
noncomputable def stepR (l : List HeldD) : List Int → List PairD → List AcctD → (List PairD × List AcctD) × Nat
  | [], p, q => ((p, q), 0)
  | d :: ds, p, q => if khasH l d = true then ((stepR l ds (runT (hth l (kposH l d)).b.tx p q).1 (runT (hth l (kposH l d)).b.tx p q).2).1, (stepR l ds (runT (hth l (kposH l d)).b.tx p q).1 (runT (hth l (kposH l d)).b.tx p q).2).2 + 1) else ((p, q), 0)
theorem stepR_yes {l : List HeldD} {s : List Int} {k : Nat} (hk : k < s.length) (p : List PairD) (q : List AcctD) (h : khasH l (nth s k) = true) :
    stepR l (s.drop k) p q = ((stepR l (s.drop (k + 1)) (runT (hth l (kposH l (nth s k))).b.tx p q).1 (runT (hth l (kposH l (nth s k))).b.tx p q).2).1, (stepR l (s.drop (k + 1)) (runT (hth l (kposH l (nth s k))).b.tx p q).1 (runT (hth l (kposH l (nth s k))).b.tx p q).2).2 + 1) := by
  rw [drop_nth s k hk]; conv => lhs; unfold stepR
  rw [if_pos h]
theorem stepR_no {l : List HeldD} {s : List Int} {k : Nat} (hk : k < s.length) (p : List PairD) (q : List AcctD) (h : khasH l (nth s k) = false) : stepR l (s.drop k) p q = ((p, q), 0) := by
  rw [drop_nth s k hk]; conv => lhs; unfold stepR
  rw [if_neg (by rw [h]; simp)]
theorem stepR_end {l : List HeldD} {s : List Int} {k : Nat} (hk : s.length ≤ k) (p : List PairD) (q : List AcctD) : stepR l (s.drop k) p q = ((p, q), 0) := by
  rw [List.drop_of_length_le hk]; rfl
theorem stepR_may (l : List HeldD) : ∀ (ds : List Int) {p : List PairD} {q : List AcctD}, MayT p q → MayT (stepR l ds p q).1.1 (stepR l ds p q).1.2 ∧ (stepR l ds p q).2 ≤ ds.length
  | [], p, q, h => ⟨h, Nat.le_refl _⟩
  | d :: ds, p, q, h => by
    unfold stepR
    split
    · have := stepR_may l ds (runT_may (hth l (kposH l d)).b.tx h)
      exact ⟨this.1, by simp; exact this.2⟩
    · exact ⟨h, Nat.zero_le _⟩
theorem ExO.setD {w : World} {B b o : Nat} {vp va vs : Value} {p : List PairD} {q : List AcctD} {s : List Int} (h : ExO w B vp va vs p q s) (h1 : vp.ownBlock ≠ some b) (h2 : va.ownBlock ≠ some b) (h3 : vs.ownBlock ≠ some b) (u : Value) : ExO (w.setCell ⟨b, o, none⟩ u) B vp va vs p q s :=
  { h with p := own_setD h.p h1 u, a := own_setD h.a h2 u, s := own_setD h.s h3 u }
theorem TabX.cnt {w : World} {C bt : Nat} {t : TypeId} {vp va vs a : Value} {l : List PairD} {q : List AcctD} (h : TabX t [vs, a] w C bt vp va l q) (b : Value) : TabX t [vs, b] (w.setCell ⟨bt, 3, none⟩ b) C bt vp va l q :=
  { blk := h.blk.set_ 3 b, p := own_setD h.p h.np b, a := own_setD h.a h.na b, d := h.d, np := h.np, na := h.na, cb := h.cb }
structure RunF (w w' : World) (l : List HeldD) (s : List Int) (cn : Nat) (FP : List PairD) (FQ : List AcctD) (N : Nat) (vs : Value) (k : Nat) (vp va : Value) (P : List PairD) (Q : List AcctD) : Prop where
  t : TabX 28 [vs, .int .i64 ((cn : Int) + (k : Int))] w' w.heap.size w.heap.size vp va P Q
  r : Blk w' (w.heap.size + 1) 28 [.slice none 0 0, .slice none 0 0, .slice none 0 0, .int .i64 0]
  np : vp.ownBlock ≠ some (w.heap.size + 1)
  na : va.ownBlock ≠ some (w.heap.size + 1)
  m : MayT P Q
  f1 : (stepR l (s.drop (cn + k)) P Q).1 = (FP, FQ)
  f2 : k + (stepR l (s.drop (cn + k)) P Q).2 = N
  le : cn + k ≤ s.length
  bel : Below w.heap.size w w'
structure RunG (w w' : World) (B : Nat) (vp va vs : Value) (s : List Int) (cn : Nat) (FP : List PairD) (FQ : List AcctD) (N : Nat) : Prop where
  b : Blk w' w.heap.size 28 [vp, va, vs, .int .i64 ((cn : Int) + (N : Int))]
  r : Blk w' (w.heap.size + 1) 28 [.slice none 0 0, .slice none 0 0, .slice none 0 0, .int .i64 0]
  o : ExO w' B vp va vs FP FQ s
  m : MayT FP FQ
  np : vp.ownBlock ≠ some (w.heap.size + 1)
  na : va.ownBlock ≠ some (w.heap.size + 1)
  ns : vs.ownBlock ≠ some (w.heap.size + 1)
  bel : Below w.heap.size w w'
def RunJ (w : World) (B : Nat) (pA qA sA hA : Option Addr) (pn pc qn qc sn sc hn hc cn : Nat) (l : List HeldD) (s : List Int) (FP : List PairD) (FQ : List AcctD) (N : Nat) (a' : Act) (w' : World) : Prop :=
  ∃ (k : Nat) (vp va : Value) (P : List PairD) (Q : List AcctD) (u3 u5 u7 u8 u9 u10 u11 u12 u13 u14 u15 u16 u17 u18 u19 u20 u21 u22 u23 u24 u25 u26 u27 u28 u29 u30 u31 u32 u33 u34 u35 u36 u37 u38 u39 u40 u41 u42 u43 u44 u45 u46 u47 u48 u49 u50 u51 : Value), a' = { tmps := #[.agg #[.slice pA pn pc, .slice qA qn qc, .slice sA sn sc, .int .i64 cn], .slice hA hn hc, .pointer (some ⟨w.heap.size, 0, none⟩), u3, .pointer (some ⟨w.heap.size + 1, 0, none⟩), u5, .int .i64 (k : Int), u7, u8, u9, u10, u11, u12, u13, u14, u15, u16, u17, u18, u19, u20, u21, u22, u23, u24, u25, u26, u27, u28, u29, u30, u31, u32, u33, u34, u35, u36, u37, u38, u39, u40, u41, u42, u43, u44, u45, u46, u47, u48, u49, u50, u51], defers := [] } ∧ RunF w w' l s cn FP FQ N (.slice sA sn sc) k vp va P Q
theorem RunJ.mk {w : World} {B : Nat} {pA qA sA hA : Option Addr} {pn pc qn qc sn sc hn hc cn : Nat} {l : List HeldD} {s : List Int} {FP : List PairD} {FQ : List AcctD} {N : Nat} {k : Nat} {vp va : Value} {P : List PairD} {Q : List AcctD} {u3 u5 u7 u8 u9 u10 u11 u12 u13 u14 u15 u16 u17 u18 u19 u20 u21 u22 u23 u24 u25 u26 u27 u28 u29 u30 u31 u32 u33 u34 u35 u36 u37 u38 u39 u40 u41 u42 u43 u44 u45 u46 u47 u48 u49 u50 u51 : Value} {z : Int} {w' : World}
    (h : RunF w w' l s cn FP FQ N (.slice sA sn sc) k vp va P Q) (hz : z = (k : Int)) : RunJ w B pA qA sA hA pn pc qn qc sn sc hn hc cn l s FP FQ N { tmps := #[.agg #[.slice pA pn pc, .slice qA qn qc, .slice sA sn sc, .int .i64 cn], .slice hA hn hc, .pointer (some ⟨w.heap.size, 0, none⟩), u3, .pointer (some ⟨w.heap.size + 1, 0, none⟩), u5, .int .i64 z, u7, u8, u9, u10, u11, u12, u13, u14, u15, u16, u17, u18, u19, u20, u21, u22, u23, u24, u25, u26, u27, u28, u29, u30, u31, u32, u33, u34, u35, u36, u37, u38, u39, u40, u41, u42, u43, u44, u45, u46, u47, u48, u49, u50, u51], defers := [] } w' :=
  hz ▸ ⟨k, vp, va, P, Q, _, _, _, _, _, _, _, _, _, _, _, _, _, _, _, _, _, _, _, _, _, _, _, _, _, _, _, _, _, _, _, _, _, _, _, _, _, _, _, _, _, _, _, _, _, _, _, rfl, h⟩
def RunE (w : World) (B : Nat) (pA qA sA hA : Option Addr) (pn pc qn qc sn sc hn hc cn : Nat) (l : List HeldD) (s : List Int) (FP : List PairD) (FQ : List AcctD) (N : Nat) (a' : Act) (w' : World) : Prop :=
  ∃ (vp va : Value) (u3 u5 u7 u8 u9 u10 u11 u12 u13 u14 u15 u16 u17 u18 u19 u20 u21 u22 u23 u24 u25 u26 u27 u28 u29 u30 u31 u32 u33 u34 u35 u36 u37 u38 u39 u40 u41 u42 u43 u44 u45 u46 u47 u48 u49 u50 u51 : Value), a' = { tmps := #[.agg #[.slice pA pn pc, .slice qA qn qc, .slice sA sn sc, .int .i64 cn], .slice hA hn hc, .pointer (some ⟨w.heap.size, 0, none⟩), u3, .pointer (some ⟨w.heap.size + 1, 0, none⟩), u5, .int .i64 (N : Int), u7, u8, u9, u10, u11, u12, u13, u14, u15, u16, u17, u18, u19, u20, u21, u22, u23, u24, u25, u26, u27, u28, u29, u30, u31, u32, u33, u34, u35, u36, u37, u38, u39, u40, u41, u42, u43, u44, u45, u46, u47, u48, u49, u50, u51], defers := [] } ∧ RunG w w' B vp va (.slice sA sn sc) s cn FP FQ N
theorem RunE.mk {w : World} {B : Nat} {pA qA sA hA : Option Addr} {pn pc qn qc sn sc hn hc cn : Nat} {l : List HeldD} {s : List Int} {FP : List PairD} {FQ : List AcctD} {N : Nat} {vp va : Value} {u3 u5 u7 u8 u9 u10 u11 u12 u13 u14 u15 u16 u17 u18 u19 u20 u21 u22 u23 u24 u25 u26 u27 u28 u29 u30 u31 u32 u33 u34 u35 u36 u37 u38 u39 u40 u41 u42 u43 u44 u45 u46 u47 u48 u49 u50 u51 : Value} {z : Int} {w' : World}
    (h : RunG w w' B vp va (.slice sA sn sc) s cn FP FQ N) (hz : z = (N : Int)) : RunE w B pA qA sA hA pn pc qn qc sn sc hn hc cn l s FP FQ N { tmps := #[.agg #[.slice pA pn pc, .slice qA qn qc, .slice sA sn sc, .int .i64 cn], .slice hA hn hc, .pointer (some ⟨w.heap.size, 0, none⟩), u3, .pointer (some ⟨w.heap.size + 1, 0, none⟩), u5, .int .i64 z, u7, u8, u9, u10, u11, u12, u13, u14, u15, u16, u17, u18, u19, u20, u21, u22, u23, u24, u25, u26, u27, u28, u29, u30, u31, u32, u33, u34, u35, u36, u37, u38, u39, u40, u41, u42, u43, u44, u45, u46, u47, u48, u49, u50, u51], defers := [] } w' :=
  hz ▸ ⟨vp, va, _, _, _, _, _, _, _, _, _, _, _, _, _, _, _, _, _, _, _, _, _, _, _, _, _, _, _, _, _, _, _, _, _, _, _, _, _, _, _, _, _, _, _, _, _, _, _, rfl, h⟩
theorem RunF.g {w w' : World} {B : Nat} {l : List HeldD} {s : List Int} {cn : Nat} {FP : List PairD} {FQ : List AcctD} {N : Nat} {vs : Value} {k : Nat} {vp va : Value} {P : List PairD} {Q : List AcctD} (h : RunF w w' l s cn FP FQ N vs k vp va P Q) (hs : OwnI w B vs s) (hB : B ≤ w.heap.size) (he : stepR l (s.drop (cn + k)) P Q = ((P, Q), 0)) : RunG w w' B vp va vs s cn FP FQ N := by
  have h1 := h.f1
  have h2 := h.f2
  rw [he] at h1 h2
  have hP : P = FP := congrArg Prod.fst h1
  have hQ : Q = FQ := congrArg Prod.snd h1
  have hN : k = N := by simpa using h2
  subst hP; subst hQ; subst hN
  have hsl : ∀ g, vs.ownBlock = some g → g < w.heap.size := fun g e => (own_lt hs g e).2
  exact { b := h.t.blk, r := h.r, o := { p := OwnP.mono h.t.p hB, a := OwnA.mono h.t.a hB, s := hs.up h.bel, pa := h.t.d, ps := fun g e1 e2 => (by have := (own_lt h.t.p g e1).1; have := hsl g e2; omega), qs := fun g e1 e2 => (by have := (own_lt h.t.a g e1).1; have := hsl g e2; omega) }, m := h.m, np := h.np, na := h.na, ns := fun e => (by have := hsl _ e; omega), bel := h.bel }
set_option maxRecDepth 100000 in
set_option maxHeartbeats 4000000 in
theorem exec_Run (B : Nat) (pA qA sA hA : Option Addr) (pn pc qn qc sn sc hn hc cn : Nat) (p : List PairD) (q : List AcctD) (s : List Int) (l : List HeldD) (FP : List PairD) (FQ : List AcctD) (N : Nat) (w : World) (hE : ExO w B (.slice pA pn pc) (.slice qA qn qc) (.slice sA sn sc) p q s) (hp : PairsR w pA pn p) (hq : AcctsR w qA qn q) (hs : IntsR w sA sn s) (hM : MayT p q) (hl : HeldsR w hA hn l) (hH : MayHs l) (hcn : cn ≤ sn) (hhn : hn ≤ 1000000) (hsn : sn ≤ 10000000) (hB : B ≤ w.heap.size)
    (hR : stepR l (s.drop cn) p q = ((FP, FQ), N)) :
    Calls Try.prog 35 #[.agg #[.slice pA pn pc, .slice qA qn qc, .slice sA sn sc, .int .i64 cn], .slice hA hn hc] w fun e w' => ∃ vp va, e = .returned (.tuple #[.agg #[vp, va, .slice sA sn sc, .int .i64 ((cn : Int) + (N : Int))], .int .i64 N]) ∧ ExO w' B vp va (.slice sA sn sc) FP FQ s ∧ Below w.heap.size w w' := by
  have HEX := Lib.hid hE
  have HP := Lib.hid hp
  have HQ := Lib.hid hq
  have HS := Lib.hid hs
  have HN := Lib.hid hs.1
  have HM := Lib.hid hM
  have HL := Lib.hid hl
  have HLN := Lib.hid hl.1
  have HH := Lib.hid hH
  have HR := Lib.hid hR
  have hpl : pn ≤ 4096 := by rw [← hp.1]; exact hM.1.1
  have hql : qn ≤ 4096 := by rw [← hq.1]; exact hM.2.1
  clear hE hp hq hs hM hl hH hR
  go_enter Try.func35, Try.ntmps35
  go_wp2_with fail
  refine wp_scope_two 0 1 (RunE w B pA qA sA hA pn pc qn qc sn sc hn hc cn l s FP FQ N) (RunJ w B pA qA sA hA pn pc qn qc sn sc hn hc cn l s FP FQ N) (fun a' _ => sn - (intOf (a'.tmps.getD 6 undef)).toNat) rfl rfl ?_ ?_ ?_
  · intro hpass
    have hX1 : Blk ((w.alloc (.cells #[.slice pA pn pc, .slice qA qn qc, .slice sA sn sc, .int .i64 cn] 28)).alloc (.cells #[.slice none 0 0, .slice none 0 0, .slice none 0 0, .int .i64 0] 28)) w.heap.size 28 [.slice pA pn pc, .slice qA qn qc, .slice sA sn sc, .int .i64 cn] := (Blk.new w 28 [.slice pA pn pc, .slice qA qn qc, .slice sA sn sc, .int .i64 cn]).up (by (repeat (first | (with_reducible exact Below.refl _ _) | (with_reducible assumption) | (with_reducible apply bel_alloc) | (with_reducible apply bel_drew) | (with_reducible apply bel_drewN) | (with_reducible refine bel_trans ?_ (by with_reducible assumption)) | (with_reducible refine bel_trans ?_ (HF.out _)) | (with_reducible refine bel_set ?_ (by simp) _) | (with_reducible refine bel_set ?_ (by simp; omega) _) | (with_reducible refine bel_set ?_ (by omega) _))))
    have hX2 : Blk ((w.alloc (.cells #[.slice pA pn pc, .slice qA qn qc, .slice sA sn sc, .int .i64 cn] 28)).alloc (.cells #[.slice none 0 0, .slice none 0 0, .slice none 0 0, .int .i64 0] 28)) (w.heap.size + 1) 28 [.slice none 0 0, .slice none 0 0, .slice none 0 0, .int .i64 0] := by
      have := Blk.new (w.alloc (.cells #[.slice pA pn pc, .slice qA qn qc, .slice sA sn sc, .int .i64 cn] 28)) 28 [.slice none 0 0, .slice none 0 0, .slice none 0 0, .int .i64 0]
      simpa using this
    have hbX : Below w.heap.size w ((w.alloc (.cells #[.slice pA pn pc, .slice qA qn qc, .slice sA sn sc, .int .i64 cn] 28)).alloc (.cells #[.slice none 0 0, .slice none 0 0, .slice none 0 0, .int .i64 0] 28)) := by (repeat (first | (with_reducible exact Below.refl _ _) | (with_reducible assumption) | (with_reducible apply bel_alloc) | (with_reducible apply bel_drew) | (with_reducible apply bel_drewN) | (with_reducible refine bel_trans ?_ (by with_reducible assumption)) | (with_reducible refine bel_trans ?_ (HF.out _)) | (with_reducible refine bel_set ?_ (by simp) _) | (with_reducible refine bel_set ?_ (by simp; omega) _) | (with_reducible refine bel_set ?_ (by omega) _)))
    have hzX : ((w.alloc (.cells #[.slice pA pn pc, .slice qA qn qc, .slice sA sn sc, .int .i64 cn] 28)).alloc (.cells #[.slice none 0 0, .slice none 0 0, .slice none 0 0, .int .i64 0] 28)).heap.size = w.heap.size + 2 := by simp
    generalize ((w.alloc (.cells #[.slice pA pn pc, .slice qA qn qc, .slice sA sn sc, .int .i64 cn] 28)).alloc (.cells #[.slice none 0 0, .slice none 0 0, .slice none 0 0, .int .i64 0] 28)) = X at *
    have HX1 := Lib.hid hX1
    have HX2 := Lib.hid hX2
    have hxl := hX1.lt
    have x_0 := (hX1.box).2 0 _ rfl; have x_1 := (hX1.box).2 1 _ rfl; have x_2 := (hX1.box).2 2 _ rfl; have x_3 := (hX1.box).2 3 _ rfl
    have hxf := hX1.frozen
    clear hX1 hX2
    by_cases hlt : cn < sn
    · have hltd : decide ((cn : Int) < (sn : Int)) = true := by simp; omega
      have HLT := Lib.hid hlt
      clear hlt
      go_wp2_with (go_at_call 40; refine (table_Own pA pn pc p qA qn qc q _ (HP.out.up (by (repeat (first | (with_reducible exact Below.refl _ _) | (with_reducible assumption) | (with_reducible apply bel_alloc) | (with_reducible apply bel_drew) | (with_reducible apply bel_drewN) | (with_reducible refine bel_trans ?_ (by with_reducible assumption)) | (with_reducible refine bel_trans ?_ (HF.out _)) | (with_reducible refine bel_set ?_ (by simp) _) | (with_reducible refine bel_set ?_ (by simp; omega) _) | (with_reducible refine bel_set ?_ (by omega) _))))) (HQ.out.up (by (repeat (first | (with_reducible exact Below.refl _ _) | (with_reducible assumption) | (with_reducible apply bel_alloc) | (with_reducible apply bel_drew) | (with_reducible apply bel_drewN) | (with_reducible refine bel_trans ?_ (by with_reducible assumption)) | (with_reducible refine bel_trans ?_ (HF.out _)) | (with_reducible refine bel_set ?_ (by simp) _) | (with_reducible refine bel_set ?_ (by simp; omega) _) | (with_reducible refine bel_set ?_ (by omega) _))))) (by omega) (by omega)).mono ?_; rintro e w1 ⟨vp, va, rfl, hp1, ha1, hd1, hb1⟩; obtain ⟨Ap, cp, rfl, _⟩ := nmP hp1 HP.out.1 (by omega); obtain ⟨Aa, ca, rfl, _⟩ := nmA ha1 HQ.out.1 (by omega); have HP1 := Lib.hid hp1; have HA1 := Lib.hid ha1; have HD1 := Lib.hid hd1; clear hp1 ha1 hd1; have HY1 := Lib.hid (HX1.out.up hb1); have HY2 := Lib.hid (HX2.out.up hb1); clear x_0 x_1 x_2 x_3 hxf; have y_0 := (HY1.out.box).2 0 _ rfl; have y_1 := (HY1.out.box).2 1 _ rfl; have y_2 := (HY1.out.box).2 2 _ rfl; have y_3 := (HY1.out.box).2 3 _ rfl; have hyl := HY1.out.lt; have hyf := HY1.out.frozen)
      rename_i K hK
      apply wp_label
      apply hK
      have hz1 : w.heap.size + 2 ≤ w1.heap.size := by have := hb1.size; omega
      have hnp : ∀ g, g < w.heap.size + 2 → (Value.slice Ap pn cp).ownBlock ≠ some g := fun g hg e => by have := (own_lt HP1.out g e).1; omega
      have hna : ∀ g, g < w.heap.size + 2 → (Value.slice Aa qn ca).ownBlock ≠ some g := fun g hg e => by have := (own_lt HA1.out g e).1; omega
      have hF : RunF w ((w1.setCell ⟨w.heap.size, 0, none⟩ (.slice Ap pn cp)).setCell ⟨w.heap.size, 1, none⟩ (.slice Aa qn ca)) l s cn FP FQ N (.slice sA sn sc) 0 (.slice Ap pn cp) (.slice Aa qn ca) p q :=
        { t := { blk := by have := (HY1.out.set_ 0 (.slice Ap pn cp)).set_ 1 (.slice Aa qn ca); simpa using this, p := own_setD (own_setD (OwnP.mono HP1.out (by omega)) (hnp _ (by omega)) _) (hnp _ (by omega)) _, a := own_setD (own_setD (OwnA.mono HA1.out (by omega)) (hna _ (by omega)) _) (hna _ (by omega)) _, d := HD1.out, np := hnp _ (by omega), na := hna _ (by omega), cb := Nat.le_refl _ }
          r := (HY2.out.far (p := ⟨w.heap.size, 0, none⟩) (by simp) _).far (p := ⟨w.heap.size, 1, none⟩) (by simp) _, np := hnp _ (by omega), na := hna _ (by omega), m := HM.out
          f1 := by rw [Nat.add_zero, HR.out], f2 := by rw [Nat.add_zero, HR.out]; simp, le := by rw [HN.out]; omega, bel := by (repeat (first | (with_reducible exact Below.refl _ _) | (with_reducible assumption) | (with_reducible apply bel_alloc) | (with_reducible apply bel_drew) | (with_reducible apply bel_drewN) | (with_reducible refine bel_trans ?_ (by with_reducible assumption)) | (with_reducible refine bel_trans ?_ (HF.out _)) | ((with_reducible refine bel_set3 ?_ ?_); rotate_left; omega))) }
      exact hpass _ _ (RunJ.mk hF rfl)
    · obtain rfl : cn = sn := by omega
      have hltd : decide ((cn : Int) < (cn : Int)) = false := by simp
      have heq : ((cn : Int) == (cn : Int)) = true := by simp
      have hst := stepR_end (l := l) (s := s) (k := cn) (by rw [HN.out]; omega) p q
      rw [HR.out] at hst
      have hP : FP = p := congrArg (fun x => x.1.1) hst
      have hQ : FQ = q := congrArg (fun x => x.1.2) hst
      have hN0 : N = 0 := congrArg (fun x => x.2) hst
      subst hP; subst hQ; subst hN0
      have HEX2 := HEX
      clear hst hlt
      go_wp2_with fail
      rename_i K hK
      apply wp_label
      apply hK
      go_wp2_with fail
      apply wp_goto
      have hl3 : ∀ v : Value, (∀ g, v.ownBlock = some g → g < w.heap.size) → v.ownBlock ≠ some (w.heap.size + 1) := fun v h e => by have := h _ e; omega
      have hG : RunG w X B (.slice pA pn pc) (.slice qA qn qc) (.slice sA cn sc) s cn FP FQ 0 :=
        { b := by simpa using HX1.out, r := HX2.out, o := HEX.out.up hbX, m := HM.out, np := hl3 _ (fun g e => (own_lt HEX.out.p g e).2), na := hl3 _ (fun g e => (own_lt HEX.out.a g e).2), ns := hl3 _ (fun g e => (own_lt HEX.out.s g e).2), bel := hbX }
      exact .inl ⟨rfl, RunE.mk hG rfl⟩
  · rintro a' w' ⟨k, vp, va, P, Q, u3, u5, u7, u8, u9, u10, u11, u12, u13, u14, u15, u16, u17, u18, u19, u20, u21, u22, u23, u24, u25, u26, u27, u28, u29, u30, u31, u32, u33, u34, u35, u36, u37, u38, u39, u40, u41, u42, u43, u44, u45, u46, u47, u48, u49, u50, u51, rfl, hF⟩
    have hzw : w.heap.size + 2 ≤ w'.heap.size := hF.r.lt
    obtain ⟨Ap, np', cp, rfl⟩ : ∃ A n c, vp = .slice A n c := by obtain ⟨A, c, e, _⟩ := hF.t.p.pairs (by have := hF.m.1.1; omega); exact ⟨A, _, c, e⟩
    obtain ⟨Aa, na', ca, rfl⟩ : ∃ A n c, va = .slice A n c := by obtain ⟨A, c, e, _⟩ := hF.t.a.accts (by have := hF.m.2.1; omega); exact ⟨A, _, c, e⟩
    have hbl := hF.t.blk.lt
    have hle := hF.le
    rw [HN.out] at hle
    have b_0 := (hF.t.blk.box).2 0 _ rfl; have b_1 := (hF.t.blk.box).2 1 _ rfl; have b_2 := (hF.t.blk.box).2 2 _ rfl; have b_3 := (hF.t.blk.box).2 3 _ rfl
    have HF := Lib.hid hF
    have hbw := hF.bel
    clear hF
    by_cases hlt : cn + k < sn
    · have heq : ((cn : Int) + (k : Int) == (sn : Int)) = false := by simp; omega
      obtain ⟨sb, soff, rfl, hsb, hsc⟩ := (HS.out.up hbw).2.2 (by omega)
      have hck := hsc (cn + k) hlt
      have htn : ((cn : Int) + (k : Int)).toNat = cn + k := by omega
      obtain ⟨d, hd⟩ : ∃ d, nth s (cn + k) = d := ⟨_, rfl⟩
      rw [hd] at hck
      have HKL : Hid (cn + k < s.length) := Lib.hid (by rw [HN.out]; exact hlt)
      have HD := Lib.hid hd
      obtain ⟨lo, hlo⟩ : ∃ lo, kposH l d = lo := ⟨_, rfl⟩
      have HLO := Lib.hid hlo
      clear hsc hd hlo
      cases hh : khasH l d
      · have HHS := Lib.hid hh
        clear hh
        go_wp2_with (go_at_call 54; refine (worker_At hA hn hc l d lo false _ (HL.out.up (by (repeat (first | (with_reducible exact Below.refl _ _) | (with_reducible assumption) | (with_reducible apply bel_alloc) | (with_reducible apply bel_drew) | (with_reducible apply bel_drewN) | (with_reducible refine bel_trans ?_ (by with_reducible assumption)) | (with_reducible refine bel_trans ?_ (HF.out _)) | (with_reducible refine bel_set ?_ (by simp) _) | (with_reducible refine bel_set ?_ (by simp; omega) _) | (with_reducible refine bel_set ?_ (by omega) _))))) HH.out.sorted (by omega) HLO.out HHS.out).mono ?_; rintro e w2 ⟨rfl, hb2⟩)
        rename_i K hK
        apply wp_label
        apply hK
        have hF2 : RunF w w2 l s cn FP FQ N (.slice (some ⟨sb, soff, none⟩) sn sc) k (.slice Ap np' cp) (.slice Aa na' ca) P Q := { HF.out with t := { HF.out.t with blk := HF.out.t.blk.up hb2, p := HF.out.t.p.up hb2, a := HF.out.t.a.up hb2 }, r := HF.out.r.up hb2, bel := bel_trans HF.out.bel hb2 }
        have hN2 : k = N := by
          have := hF2.f2
          rw [stepR_no HKL.out P Q (by rw [HD.out]; exact HHS.out)] at this
          simpa using this
        have hE := hF2.g HEX.out.s hB (stepR_no HKL.out P Q (by rw [HD.out]; exact HHS.out))
        subst hN2
        clear hF2 b_0 b_1 b_2 b_3 hbl
        have rfz := hE.r.frozen
        have hbl := hE.b.lt
        have hrl := hE.r.lt
        have b_0 := (hE.b.box).2 0 _ rfl; have b_1 := (hE.b.box).2 1 _ rfl; have b_2 := (hE.b.box).2 2 _ rfl; have b_3 := (hE.b.box).2 3 _ rfl
        have k_0 := (hE.r.box).2 0 _ rfl; have k_1 := (hE.r.box).2 1 _ rfl; have k_2 := (hE.r.box).2 2 _ rfl; have k_3 := (hE.r.box).2 3 _ rfl
        have hR7 := set4 hE.r (.slice Ap np' cp) (.slice Aa na' ca) (.slice (some ⟨sb, soff, none⟩) sn sc) (.int .i64 ((cn : Int) + (k : Int)))
        have r_0 := (hR7.box).2 0 _ rfl; have r_1 := (hR7.box).2 1 _ rfl; have r_2 := (hR7.box).2 2 _ rfl; have r_3 := (hR7.box).2 3 _ rfl
        have HE := Lib.hid hE
        clear hR7 hE
        go_wp2_with fail
        simp only [Exit.noGoto, Exit.jump2]
        exact bodyPost_ret (v := .tuple #[.agg #[.slice Ap np' cp, .slice Aa na' ca, .slice (some ⟨sb, soff, none⟩) sn sc, .int .i64 ((cn : Int) + (k : Int))], .int .i64 k]) (by simp [results, Try.results35, go_sem, r_0, r_1, r_2, r_3]) rfl ⟨_, _, rfl, (((HE.out.o.setD HE.out.np HE.out.na HE.out.ns _).setD HE.out.np HE.out.na HE.out.ns _).setD HE.out.np HE.out.na HE.out.ns _).setD HE.out.np HE.out.na HE.out.ns _, by have h9 := HE.out.bel; (repeat (first | (with_reducible exact Below.refl _ _) | (with_reducible assumption) | (with_reducible apply bel_alloc) | (with_reducible apply bel_drew) | (with_reducible apply bel_drewN) | (with_reducible refine bel_trans ?_ (by with_reducible assumption)) | (with_reducible refine bel_trans ?_ (HF.out _)) | ((with_reducible refine bel_set3 ?_ ?_); rotate_left; omega)))⟩
      · obtain ⟨hlol, hdi⟩ := khasH_lt HLO.out hh
        rw [HLN.out] at hlol
        have HHS := Lib.hid hh
        obtain ⟨hb_, hoff, rfl, hhb, hhc⟩ := (HL.out.up hbw).2.2 (by omega)
        obtain ⟨xA, xm, xd, ⟨e0, e1, e2, e3⟩, htx⟩ := hhc lo hlol
        obtain ⟨bt, hbt⟩ : ∃ bt, (hth l lo).b = bt := ⟨_, rfl⟩
        have hbm : bmT bt = true := by rw [← hbt]; exact (HH.out lo (by rw [HLN.out]; exact hlol)).2.1
        rw [hbt] at e1 e2 htx
        have hxm : xm ≤ 8 := by rw [← htx.1]; exact (bmT_iff.1 hbm).2.2.2.2.2.1
        have HBT := Lib.hid hbt
        have HTX0 : Hid (∀ W, Below w.heap.size w W → TxsR W xA xm bt.tx) := Lib.hid (fun W hW => by
          obtain ⟨b', off', e', hb', hc'⟩ := (HL.out).2.2 (by omega)
          injection e' with e'; injection e' with q1 q2
          subst q1; subst q2
          obtain ⟨B', m', d', ⟨_, _, _, k3⟩, ht'⟩ := hc' lo hlol
          have h3 := (hbw.cell (p := ⟨hb_, hoff + lo * 4 + 3, none⟩) hb').trans k3
          rw [e3] at h3
          injection h3 with h3; injection h3 with q1 q2 q3
          subst q1; subst q2
          rw [hbt] at ht'
          exact ht'.up hW)
        have HDI := Lib.hid hdi
        obtain ⟨⟨LF, QF⟩, hrt⟩ : ∃ r, runT bt.tx P Q = r := ⟨_, rfl⟩
        obtain ⟨M, hrn⟩ : ∃ r, runN bt.tx P Q = r := ⟨_, rfl⟩
        have HRT := Lib.hid hrt
        have HRN := Lib.hid hrn
        clear hhc htx hbt hbm e0 hdi hh hrt hrn
        go_wp2_with (first
          | (go_at_call 54; refine (worker_At (some ⟨hb_, hoff, none⟩) hn hc l d lo true _ (HL.out.up (by (repeat (first | (with_reducible exact Below.refl _ _) | (with_reducible assumption) | (with_reducible apply bel_alloc) | (with_reducible apply bel_drew) | (with_reducible apply bel_drewN) | (with_reducible refine bel_trans ?_ (by with_reducible assumption)) | (with_reducible refine bel_trans ?_ (HF.out _)) | (with_reducible refine bel_set ?_ (by simp) _) | (with_reducible refine bel_set ?_ (by simp; omega) _) | (with_reducible refine bel_set ?_ (by omega) _))))) HH.out.sorted (by omega) HLO.out HHS.out).mono ?_; rintro e w2 ⟨rfl, hb2⟩; have hT2 : TabX 28 [.slice (some ⟨sb, soff, none⟩) sn sc, .int .i64 ((cn : Int) + (k : Int))] w2 w.heap.size w.heap.size (.slice Ap np' cp) (.slice Aa na' ca) P Q := HF.out.t.up hb2; have HT2 := Lib.hid hT2; have HR2 := Lib.hid (HF.out.r.up hb2); have hbw2 := bel_trans hbw hb2; clear b_0 b_1 b_2 b_3; have d_0 := (hT2.blk.box).2 0 _ rfl; have d_1 := (hT2.blk.box).2 1 _ rfl; have d_2 := (hT2.blk.box).2 2 _ rfl; have d_3 := (hT2.blk.box).2 3 _ rfl; have hdl := hT2.blk.lt; clear hT2; have f1 := (hb2.cell (p := ⟨hb_, hoff + lo * 4 + 1, none⟩) hhb).trans e1; have f2 := (hb2.cell (p := ⟨hb_, hoff + lo * 4 + 2, none⟩) hhb).trans e2; have f3 := (hb2.cell (p := ⟨hb_, hoff + lo * 4 + 3, none⟩) hhb).trans e3; have hhb2 : hb_ < w2.heap.size := Nat.lt_of_lt_of_le hhb hb2.size)
          | (go_at_call 41; refine (table_All w.heap.size w.heap.size _ _ P Q bt.au bt.n xA xm xd bt.tx LF QF M _ HT2.out HF.out.m (fun W hW => HTX0.out W (hbw2.trans hW)) HRT.out HRN.out (by omega)).mono ?_; rintro e w3 ⟨rfl, vp3, va3, hT3, hk3⟩; have HT3 := Lib.hid hT3; have HK3 := Lib.hid hk3; clear d_0 d_1 d_2 d_3 hk3; have y_0 := (hT3.blk.box).2 0 _ rfl; have y_1 := (hT3.blk.box).2 1 _ rfl; have y_2 := (hT3.blk.box).2 2 _ rfl; have y_3 := (hT3.blk.box).2 3 _ rfl; have hyl := hT3.blk.lt; have hyf := hT3.blk.frozen; clear hT3))
        apply wp_goto
        have hT4 : TabX 28 [.slice (some ⟨sb, soff, none⟩) sn sc, .int .i64 ((cn : Int) + ((k + 1 : Nat) : Int))] (w3.setCell ⟨w.heap.size, 3, none⟩ (.int .i64 ((cn : Int) + ((k + 1 : Nat) : Int)))) w.heap.size w.heap.size vp3 va3 LF QF := HT3.out.cnt _
        have he1 : (cn : Int) + (k : Int) + 1 = (cn : Int) + ((k + 1 : Nat) : Int) := by omega
        have hrs := stepR_yes HKL.out P Q (by rw [HD.out]; exact HHS.out)
        rw [HD.out, HLO.out, HBT.out, HRT.out] at hrs
        have hf1 := HF.out.f1
        have hf2 := HF.out.f2
        rw [hrs] at hf1 hf2
        dsimp only at hf1 hf2
        have hnp : (Value.slice Ap np' cp).ownBlock ≠ some (w.heap.size + 1) := HF.out.np
        have hna : (Value.slice Aa na' ca).ownBlock ≠ some (w.heap.size + 1) := HF.out.na
        have hF4 : RunF w (w3.setCell ⟨w.heap.size, 3, none⟩ (.int .i64 ((cn : Int) + ((k + 1 : Nat) : Int)))) l s cn FP FQ N (.slice (some ⟨sb, soff, none⟩) sn sc) (k + 1) vp3 va3 LF QF :=
          { t := hT4, r := (HK3.out.blk HR2.out (by omega) hnp hna).far (p := ⟨w.heap.size, 3, none⟩) (by simp) _, np := HK3.out.np _ (by have := HR2.out.lt; omega) hnp, na := HK3.out.na _ (by have := HR2.out.lt; omega) hna, m := by have := runT_may bt.tx HF.out.m; rw [HRT.out] at this; exact this, f1 := by rw [← Nat.add_assoc]; exact hf1, f2 := by rw [← Nat.add_assoc]; omega, le := by rw [← Nat.add_assoc]; exact HKL.out, bel := (hbw2.trans (HK3.out.below HT2.out)).setCell (Nat.le_refl _) _ }
        rw [← he1] at hF4
        refine .inr ⟨rfl, RunJ.mk hF4 (by omega), ?_⟩
        simp [intOf]
        omega
    · obtain hkq : cn + k = sn := by omega
      have heq : ((cn : Int) + (k : Int) == (sn : Int)) = true := by simp; omega
      go_wp2_with fail
      apply wp_goto
      have hend := stepR_end (l := l) (s := s) (k := cn + k) (by rw [HN.out]; omega) P Q
      have hN2 : k = N := by
        have := HF.out.f2
        rw [hend] at this
        simpa using this
      have hG := HF.out.g HEX.out.s hB hend
      exact .inl ⟨rfl, RunE.mk hG (by omega)⟩
  · rintro a' w' ⟨vp, va, u3, u5, u7, u8, u9, u10, u11, u12, u13, u14, u15, u16, u17, u18, u19, u20, u21, u22, u23, u24, u25, u26, u27, u28, u29, u30, u31, u32, u33, u34, u35, u36, u37, u38, u39, u40, u41, u42, u43, u44, u45, u46, u47, u48, u49, u50, u51, rfl, hE⟩
    have rfz := hE.r.frozen
    have hbl := hE.b.lt
    have hrl := hE.r.lt
    obtain ⟨Ap, np', cp, rfl⟩ : ∃ A n c, vp = .slice A n c := by obtain ⟨A, c, e, _⟩ := hE.o.p.pairs (by have := hE.m.1.1; omega); exact ⟨A, _, c, e⟩
    obtain ⟨Aa, na', ca, rfl⟩ : ∃ A n c, va = .slice A n c := by obtain ⟨A, c, e, _⟩ := hE.o.a.accts (by have := hE.m.2.1; omega); exact ⟨A, _, c, e⟩
    have b_0 := (hE.b.box).2 0 _ rfl; have b_1 := (hE.b.box).2 1 _ rfl; have b_2 := (hE.b.box).2 2 _ rfl; have b_3 := (hE.b.box).2 3 _ rfl
    have k_0 := (hE.r.box).2 0 _ rfl; have k_1 := (hE.r.box).2 1 _ rfl; have k_2 := (hE.r.box).2 2 _ rfl; have k_3 := (hE.r.box).2 3 _ rfl
    have hR7 := set4 hE.r (.slice Ap np' cp) (.slice Aa na' ca) (.slice sA sn sc) (.int .i64 ((cn : Int) + (N : Int)))
    have r_0 := (hR7.box).2 0 _ rfl; have r_1 := (hR7.box).2 1 _ rfl; have r_2 := (hR7.box).2 2 _ rfl; have r_3 := (hR7.box).2 3 _ rfl
    have HE := Lib.hid hE
    clear hR7 hE
    go_wp2_with fail
    simp only [Exit.noGoto, Exit.jump2]
    exact bodyPost_ret (v := .tuple #[.agg #[.slice Ap np' cp, .slice Aa na' ca, .slice sA sn sc, .int .i64 ((cn : Int) + (N : Int))], .int .i64 N]) (by simp [results, Try.results35, go_sem, r_0, r_1, r_2, r_3]) rfl ⟨_, _, rfl, (((HE.out.o.setD HE.out.np HE.out.na HE.out.ns _).setD HE.out.np HE.out.na HE.out.ns _).setD HE.out.np HE.out.na HE.out.ns _).setD HE.out.np HE.out.na HE.out.ns _, by have h9 := HE.out.bel; (repeat (first | (with_reducible exact Below.refl _ _) | (with_reducible assumption) | (with_reducible apply bel_alloc) | (with_reducible apply bel_drew) | (with_reducible apply bel_drewN) | (with_reducible refine bel_trans ?_ (by with_reducible assumption)) | (with_reducible refine bel_trans ?_ (HF.out _)) | ((with_reducible refine bel_set3 ?_ ?_); rotate_left; omega)))⟩

end Go.Proofs.Ytbakkpabiknlmaa
