/- Joined: Base F M O Gr Gi Ya Yb Yc Yd Ye Yv Yf Yh Yj. -/
import Derived.Test.YtgfakefcmbpboaaGreatRows
import Derived.WalkKit
import Derived.WalkLawsBesides
import Derived.WalkSpells
import Derived.Deep.QuietTactic
import Derived.BigQuiet
import Derived.Lib.Hide
import Derived.Deep.Light
import Derived.Maps.AppendAt
import Derived.ScopeJumps
import Derived.WalkMore
import Derived.Laws.CopyRow
import Derived.Lib.AppendZerosOnto
import Derived.Lib.Overlaps
import Derived.Deep.RegionLaw
import Derived.Lib.SliceRun
import Derived.Deep.RegionWith
import Derived.ProofKit
import Derived.OpenShut
import Derived.ChangeSlices
import Derived.ChangeOld
import Derived.Below
import Derived.Deep.Slices
namespace Go.Proofs.YtgfakefcmbpboaaGreat
set_option linter.unusedSimpArgs false
set_option linter.unusedVariables false

/-! part Base -/
section
open Go.RowKit
/-! ### worlds that only grow -/
theorem bcell {W w1 : World} (hb : Below W.heap.size W w1) : (∀ b o, b < W.heap.size → w1.cell? ⟨b, o, none⟩ = W.cell? ⟨b, o, none⟩) ∧ (∀ b o, b < W.heap.size → w1.frozen? ⟨b, o, none⟩ = W.frozen? ⟨b, o, none⟩) :=
  ⟨fun b o h => hb.cell (p := ⟨b, o, none⟩) h, fun b o h => hb.frozen (p := ⟨b, o, none⟩) h⟩
theorem bel_alloc {w x : World} {o : Obj} (h : Below w.heap.size w x) : Below w.heap.size w (x.alloc o) := h.alloc h.size o
theorem bel_drew {w x : World} (h : Below w.heap.size w x) : Below w.heap.size w x.drew := h.drew
theorem bel_drewN {w x : World} {n : Nat} (h : Below w.heap.size w x) : Below w.heap.size w (x.drewN n) := ⟨h.os, h.tape, h.output, h.size, h.block⟩
theorem bel_trans {w x y : World} (h : Below w.heap.size w x) (k : Below x.heap.size x y) : Below w.heap.size w y := h.trans (k.mono h.size)
theorem bel_set {w x : World} (h : Below w.heap.size w x) {p : Addr} (hp : w.heap.size ≤ p.block) (v : Value) : Below w.heap.size w (x.setCell p v) := h.setCell hp v

/-! ### a region that draws its order, whose callees only make memory -/
theorem wp_region_fam {P : Program} {id : Nat} {Q : Exit → Act → World → Prop} {a : Act} {w : World} {l : List Oper} (hm : P.follows .mixedOrders = true) (hB : Region.lexB .any l.toArray = true)
    (h : ∀ (ι : Type) (F : ι → World), Nonempty ι → (∀ n, Below w.heap.size w (F n)) → (∀ n w', Below (F n).heap.size (F n) w' → ∃ m, w' = F m) →
      wpQuiet P l.toArray (fun w' => ∃ n, w' = F n) (fun a' => ∀ n, Q .normal a' (F n)) l a) : (Code.region id l.toArray true).wp P Q a w := by
  refine wp_region_quiet (C := fun w' => ∃ n : {w' : World // Below w.heap.size w w'}, w' = n.1) hm hB ⟨⟨_, (Below.refl w.heap.size w).drew⟩, rfl⟩ ?_
  have := h {w' : World // Below w.heap.size w w'} (fun n => n.1) ⟨⟨w, Below.refl _ _⟩⟩ (fun n => n.2) (fun n w' hb => ⟨⟨w', n.2.trans (hb.mono n.2.size)⟩, rfl⟩)
  have e : (fun a' => ∀ (n : {w' : World // Below w.heap.size w w'}), Q .normal a' n.1) = (fun a' => ∀ w', (∃ n : {w' : World // Below w.heap.size w w'}, w' = n.1) → Q .normal a' w') := by
    funext a'
    exact propext ⟨fun h w' ⟨n, hn⟩ => hn ▸ h n, fun h n => h _ ⟨n, rfl⟩⟩
  rw [e] at this
  simpa using this
theorem wpQuiet_guard {P : Program} {ops : Array Oper} {C : World → Prop} {Q : Act → Prop} {a : Act} {o : Oper} {rest : List Oper} (j : Nat) (want b : Bool) (_ : o.guard = some (j, want)) (_ : yielded ops a.tmps j = some b)
    (h : ∀ b', b = b' → wpQuiet P ops C Q (o :: rest) a) : wpQuiet P ops C Q (o :: rest) a := h b rfl
theorem Calls.fam {P : Program} {f : FuncId} {args : Array Value} {ι : Type} {F : ι → World} (hcl : ∀ n w', Below (F n).heap.size (F n) w' → ∃ m, w' = F m) {n : ι} {v : Value}
    (h : Calls P f args (F n) fun e w' => e = .returned v ∧ Below (F n).heap.size (F n) w') : Calls P f args (F n) fun e w'' => e = .returned v ∧ ∃ m, w'' = F m :=
  h.mono fun _ _ ⟨he, hb⟩ => ⟨he, hcl n _ hb⟩
theorem Calls.fam_same {P : Program} {f : FuncId} {args : Array Value} {ι : Type} {F : ι → World} {n : ι} {v : Value}
    (h : Calls P f args (F n) fun e w' => e = .returned v ∧ F n = w') : Calls P f args (F n) fun e w'' => e = .returned v ∧ ∃ m, w'' = F m :=
  h.mono fun _ _ ⟨he, hb⟩ => ⟨he, n, hb.symm⟩
theorem Calls.below_of_same {P : Program} {f : FuncId} {args : Array Value} {w : World} {v : Value}
    (h : Calls P f args w fun e w' => e = .returned v ∧ w = w') : Calls P f args w fun e w' => e = .returned v ∧ Below w.heap.size w w' :=
  h.mono fun _ _ ⟨he, hb⟩ => ⟨he, hb ▸ Below.refl _ _⟩

/-! ### numbers -/
def maxI : Nat := 9223372036854775807
theorem maxI_def : maxI = 9223372036854775807 := rfl
def nth (l : List Int) (j : Nat) : Int := l.getD j 0
theorem drop_nth (l : List Int) (k : Nat) (h : k < l.length) : l.drop k = nth l k :: l.drop (k + 1) := by
  rw [List.drop_eq_getElem_cons h]; simp [nth, h]
theorem take_nth (l : List Int) (k : Nat) (h : k < l.length) : l.take (k + 1) = l.take k ++ [nth l k] := by
  rw [List.take_succ_eq_append_getElem h]; simp [nth, h]

/-- The slice (A, n, _) reads as the numbers l. -/
def IntsR (w : World) (A : Option Addr) (n : Nat) (l : List Int) : Prop :=
  l.length = n ∧ n ≤ 9223372036854775807 ∧ (0 < n → ∃ b off, A = some ⟨b, off, none⟩ ∧ b < w.heap.size ∧ ∀ j, j < n → w.cell? ⟨b, off + j, none⟩ = some (.int .i64 (nth l j)))
theorem IntsR.up {w w' : World} {A n l} (h : IntsR w A n l) (hb : Below w.heap.size w w') : IntsR w' A n l := by
  obtain ⟨h1, h2, h3⟩ := h
  refine ⟨h1, h2, fun hn => ?_⟩
  obtain ⟨b, off, rfl, hlt, hc⟩ := h3 hn
  exact ⟨b, off, rfl, Nat.lt_of_lt_of_le hlt hb.size, fun j hj => (hb.cell (p := ⟨b, off + j, none⟩) hlt).trans (hc j hj)⟩

/-! ### headers, certificates, DAGs: what they hold (D), where it lies (P) -/
structure HeaderD where
  au : Int
  ro : Int
  ba : List Int
  pa : List Int
structure CertD where
  h : HeaderD
  di : Int
  si : List Int
structure DagD where
  nodes : Int
  low : Int
  certs : List CertD
structure SlP where
  A : Option Addr
  n : Nat
  c : Nat
structure HeaderP where
  b : SlP
  p : SlP
structure CertP where
  h : HeaderP
  s : SlP
instance : Inhabited HeaderD := ⟨⟨0, 0, [], []⟩⟩
instance : Inhabited CertD := ⟨⟨default, 0, []⟩⟩
instance : Inhabited SlP := ⟨⟨none, 0, 0⟩⟩
instance : Inhabited HeaderP := ⟨⟨default, default⟩⟩
instance : Inhabited CertP := ⟨⟨default, default⟩⟩
def HeaderR (w : World) (p : HeaderP) (H : HeaderD) : Prop := IntsR w p.b.A p.b.n H.ba ∧ IntsR w p.p.A p.p.n H.pa
def CertR (w : World) (p : CertP) (C : CertD) : Prop := HeaderR w p.h C.h ∧ IntsR w p.s.A p.s.n C.si
theorem HeaderR.up {w w' : World} {p H} (h : HeaderR w p H) (hb : Below w.heap.size w w') : HeaderR w' p H := ⟨h.1.up hb, h.2.up hb⟩
theorem CertR.up {w w' : World} {p C} (h : CertR w p C) (hb : Below w.heap.size w w') : CertR w' p C := ⟨h.1.up hb, h.2.up hb⟩
def cth (l : List CertD) (j : Nat) : CertD := l.getD j default
theorem drop_cth (l : List CertD) (k : Nat) (h : k < l.length) : l.drop k = cth l k :: l.drop (k + 1) := by
  rw [List.drop_eq_getElem_cons h]; simp [cth, h]
theorem take_cth (l : List CertD) (k : Nat) (h : k < l.length) : l.take (k + 1) = l.take k ++ [cth l k] := by
  rw [List.take_succ_eq_append_getElem h]; simp [cth, h]
/-- The cells of a certificate at an address. -/
def CertAt (w : World) (b off : Nat) (p : CertP) (C : CertD) : Prop :=
  w.cell? ⟨b, off, none⟩ = some (.int .i64 C.h.au) ∧ w.cell? ⟨b, off + 1, none⟩ = some (.int .i64 C.h.ro) ∧
  w.cell? ⟨b, off + 2, none⟩ = some (.slice p.h.b.A p.h.b.n p.h.b.c) ∧ w.cell? ⟨b, off + 3, none⟩ = some (.slice p.h.p.A p.h.p.n p.h.p.c) ∧
  w.cell? ⟨b, off + 4, none⟩ = some (.int .i64 C.di) ∧ w.cell? ⟨b, off + 5, none⟩ = some (.slice p.s.A p.s.n p.s.c)
theorem CertAt.up {w w' : World} {b off p C} (h : CertAt w b off p C) (hb : Below w.heap.size w w') (hlt : b < w.heap.size) : CertAt w' b off p C := by
  have g := (bcell hb).1
  obtain ⟨h0, h1, h2, h3, h4, h5⟩ := h
  exact ⟨(g _ _ hlt).trans h0, (g _ _ hlt).trans h1, (g _ _ hlt).trans h2, (g _ _ hlt).trans h3, (g _ _ hlt).trans h4, (g _ _ hlt).trans h5⟩
/-- The slice (A, n, _) of certificates reads as l. -/
def CertsR (w : World) (A : Option Addr) (n : Nat) (l : List CertD) : Prop :=
  l.length = n ∧ n ≤ 9223372036854775807 ∧ (0 < n → ∃ b off, A = some ⟨b, off, none⟩ ∧ b < w.heap.size ∧ ∀ j, j < n → ∃ p, CertAt w b (off + j * 6) p (cth l j) ∧ CertR w p (cth l j))
theorem CertsR.up {w w' : World} {A n l} (h : CertsR w A n l) (hb : Below w.heap.size w w') : CertsR w' A n l := by
  obtain ⟨h1, h2, h3⟩ := h
  refine ⟨h1, h2, fun hn => ?_⟩
  obtain ⟨b, off, rfl, hlt, hc⟩ := h3 hn
  exact ⟨b, off, rfl, Nat.lt_of_lt_of_le hlt hb.size, fun j hj => let ⟨p, h1, h2⟩ := hc j hj; ⟨p, h1.up hb hlt, h2.up hb⟩⟩

/-! ### endings -/
theorem ret_bool {b c : Bool} (h : b = c) : Ending.returned (.bool b) = .returned (.bool c) := by rw [h]
theorem ret_int {k : IntKind} {a b : Int} (h : a = b) : Ending.returned (.int k a) = .returned (.int k b) := by rw [h]
end
/-! part F -/
section
open Go.RowKit
def fl (n : Int) : Nat := FloatKind.f64.nearest n

theorem log2_bd (n : Nat) (h : 0 < n) : 2 ^ n.log2 ≤ n ∧ n < 2 ^ (n.log2 + 1) := ⟨Nat.log2_self_le (by omega), Nat.lt_log2_self⟩
theorem log2_le52 (n : Nat) (h : 0 < n) (hn : n < 2 ^ 53) : n.log2 ≤ 52 := by
  have := (Nat.log2_lt (by omega)).2 hn
  omega
theorem decode_fl (n : Nat) (hn : n < 2 ^ 53) : ∃ e : Nat, FloatKind.f64.decode (fl n) = .number false (n * 2 ^ e) (-(e : Int)) := by
  rcases Nat.eq_zero_or_pos n with rfl | h0
  · exact ⟨1074, by decide +kernel⟩
  · have hL := log2_le52 n h0 hn
    obtain ⟨b1, b2⟩ := log2_bd n h0
    refine ⟨52 - n.log2, ?_⟩
    have hp : 2 ^ n.log2 * 2 ^ (52 - n.log2) = 2 ^ 52 := by rw [← Nat.pow_add]; congr 1; omega
    have hp2 : 2 ^ (n.log2 + 1) * 2 ^ (52 - n.log2) = 2 ^ 53 := by rw [← Nat.pow_add]; congr 1; omega
    have m1 : 2 ^ 52 ≤ n * 2 ^ (52 - n.log2) := by rw [← hp]; exact Nat.mul_le_mul_right _ b1
    have m2 : n * 2 ^ (52 - n.log2) < 2 ^ 53 := by rw [← hp2]; exact Nat.mul_lt_mul_of_pos_right b2 (Nat.two_pow_pos _)
    have hfl : fl n = (n.log2 + 1022) * 2 ^ 52 + n * 2 ^ (52 - n.log2) := by
      have hneg : decide ((n : Int) < 0) = false := by simp
      unfold fl FloatKind.nearest FloatKind.encode FloatKind.format Ieee.Format.write
      simp only [hneg]
      unfold Ieee.Format.nearest
      have e1 : Ieee.double.leastPlace = -1074 := by decide +kernel
      have e2 : Ieee.double.fractionBits = 52 := rfl
      have e3 : Ieee.double.binade = 2 ^ 52 := rfl
      have e4 : Ieee.double.infRung = 2047 * 2 ^ 52 := by decide +kernel
      have hna : (n : Int).natAbs = n := by simp
      rw [hna, if_neg (by omega), e1, e2, e3, e4]
      have hlast : max ((0 : Int) + (n.log2 : Int) - ((52 : Nat) : Int)) (-1074) = (n.log2 : Int) - 52 := by omega
      simp only [hlast]
      have t1 : ((0 : Int) - ((n.log2 : Int) - 52)).toNat = 52 - n.log2 := by omega
      have t2 : ((n.log2 : Int) - 52 - 0).toNat = 0 := by omega
      have t3 : ((n.log2 : Int) - 52 - -1074).toNat = n.log2 + 1022 := by omega
      rw [t1, t2, t3, Nat.shiftLeft_eq]
      have hcut : Ieee.Toward.even.cut false (n * 2 ^ (52 - n.log2)) 0 = n * 2 ^ (52 - n.log2) := by
        unfold Ieee.Toward.cut
        simp [Nat.mod_one]
      rw [hcut]
      unfold Ieee.Format.word
      simp only [Bool.false_eq_true, if_false]
      have : (n.log2 + 1022) * 2 ^ 52 + n * 2 ^ (52 - n.log2) ≤ 2047 * 2 ^ 52 := by omega
      exact Nat.min_eq_left this
    rw [hfl]
    generalize hm : n * 2 ^ (52 - n.log2) = m at *
    generalize n.log2 = L at *
    unfold FloatKind.decode FloatKind.format Ieee.Format.read
    have e1 : Ieee.double.leastPlace = -1074 := by decide +kernel
    have e3 : Ieee.double.binade = 4503599627370496 := rfl
    have e4 : Ieee.double.infRung = 9218868437227405312 := by decide +kernel
    have e5 : Ieee.double.signWeight = 9223372036854775808 := by decide +kernel
    simp only [e1, e3, e4, e5]
    have q1 : ((L + 1022) * 2 ^ 52 + m) / 9223372036854775808 % 2 = 0 := by omega
    have q2 : ((L + 1022) * 2 ^ 52 + m) % 9223372036854775808 = (L + 1022) * 2 ^ 52 + m := by omega
    rw [q1, q2, if_neg (by omega), if_pos (by omega)]
    have q3 : 4503599627370496 + ((L + 1022) * 2 ^ 52 + m) % 4503599627370496 = m := by omega
    have q4 : ((L + 1022) * 2 ^ 52 + m) / 4503599627370496 - 1 = L + 1022 := by omega
    rw [q3, q4]
    have q5 : (-1074 : Int) + ((L + 1022 : Nat) : Int) = -((52 - L : Nat) : Int) := by omega
    rw [q5]
    rfl

theorem compare_mul (a b k : Nat) : compare ((a * 2 ^ k : Nat) : Int) ((b * 2 ^ k : Nat) : Int) = compare (a : Int) (b : Int) := by
  have hk : 0 < 2 ^ k := Nat.two_pow_pos _
  have h1 : ((a * 2 ^ k : Nat) : Int) < ((b * 2 ^ k : Nat) : Int) ↔ (a : Int) < (b : Int) := by
    rw [Int.ofNat_lt, Int.ofNat_lt]; exact Nat.mul_lt_mul_right hk
  have h2 : ((a * 2 ^ k : Nat) : Int) = ((b * 2 ^ k : Nat) : Int) ↔ (a : Int) = (b : Int) := by
    rw [Int.ofNat_inj, Int.ofNat_inj]; exact Nat.mul_left_inj (by omega)
  simp only [compare, compareOfLessAndEq, h1, h2]

theorem order_fl (a b : Int) (ha : 0 ≤ a) (hb : 0 ≤ b) (ha' : a < 9007199254740992) (hb' : b < 9007199254740992) : FloatKind.f64.format.order (fl a) (fl b) = some (compare a b) := by
  obtain ⟨x, rfl⟩ := Int.eq_ofNat_of_zero_le ha
  obtain ⟨y, rfl⟩ := Int.eq_ofNat_of_zero_le hb
  obtain ⟨e, he⟩ := decode_fl x (by omega)
  obtain ⟨d, hd⟩ := decode_fl y (by omega)
  unfold Ieee.Format.order
  have he' : FloatKind.f64.format.read (fl x) = .number false (x * 2 ^ e) (-(e : Int)) := he
  have hd' : FloatKind.f64.format.read (fl y) = .number false (y * 2 ^ d) (-(d : Int)) := hd
  rw [he', hd']
  unfold Ieee.Datum.order Ieee.signed
  simp only [Bool.false_eq_true, if_false, Nat.shiftLeft_eq, Nat.mul_assoc, ← Nat.pow_add]
  have k1 : e + (-(e : Int) - min (-(e : Int)) (-(d : Int))).toNat = max e d := by omega
  have k2 : d + (-(d : Int) - min (-(e : Int)) (-(d : Int))).toNat = max e d := by omega
  rw [k1, k2, compare_mul]
theorem cmp_lt (a b : Int) : (some (compare a b) == some Ordering.lt) = decide (a < b) := by
  simp only [compare, compareOfLessAndEq]
  split
  · simp [*]
  · split <;> simp [*]
theorem cmp_eq (a b : Int) : (some (compare a b) == some Ordering.eq) = (a == b) := by
  simp only [compare, compareOfLessAndEq]
  by_cases h : a < b
  · simp [h]; omega
  · by_cases h2 : a = b <;> simp [h, h2]
theorem cmp_gt (a b : Int) : (some (compare a b) == some Ordering.gt) = decide (b < a) := by
  simp only [compare, compareOfLessAndEq]
  by_cases h : a < b
  · simp [h]; omega
  · by_cases h2 : a = b
    · subst h2; simp
    · simp [h, h2]; omega
end
/-! part M -/
section
open Go.RowKit
def keyIs (n : Int) (e : MapEntry) : Bool := match e.key with | .int .i64 m => m == n | _ => false
def KeysI (es : List MapEntry) : Prop := ∀ e ∈ es, ∃ n, e.key = .int .i64 n
def lk (es : List MapEntry) (n : Int) : Option Value := (es.find? (keyIs n)).map (·.val)
theorem findNow_lk (n : Int) : ∀ (es : List MapEntry) (i : Nat), KeysI es →
    (Instr.findNow (.int .i64) (.int .i64 n) es i = some none ∧ lk es n = none ∧ ∀ e ∈ es, keyIs n e = false) ∨
    ∃ j e, es[j]? = some e ∧ keyIs n e = true ∧ (∀ j' e', j' < j → es[j']? = some e' → keyIs n e' = false) ∧ Instr.findNow (.int .i64) (.int .i64 n) es i = some (some (i + j, e.val)) ∧ lk es n = some e.val
  | [], i, _ => .inl ⟨rfl, rfl, fun e he => by cases he⟩
  | e :: es, i, hk => by
    obtain ⟨m, hm⟩ := hk e (by simp)
    have hs : Instr.sameNow (.int .i64) (.int .i64 n) e.key = some (n == m) := by rw [hm]; rfl
    have hki : keyIs n e = (m == n) := by unfold keyIs; rw [hm]
    by_cases hnm : n = m
    · subst hnm
      refine .inr ⟨0, e, rfl, by rw [hki]; simp, fun j' e' h => absurd h (by omega), ?_, ?_⟩
      · unfold Instr.findNow; rw [hs]; simp
      · unfold lk; rw [List.find?_cons]; simp [hki]
    · have h1 : (n == m) = false := by simp [hnm]
      have h2 : keyIs n e = false := by rw [hki]; simp; exact fun h => hnm h.symm
      have hf : Instr.findNow (.int .i64) (.int .i64 n) (e :: es) i = Instr.findNow (.int .i64) (.int .i64 n) es (i + 1) := by
        rw [Instr.findNow]; rw [hs, h1]
      have hl : lk (e :: es) n = lk es n := by unfold lk; rw [List.find?_cons]; simp [h2]
      rcases findNow_lk n es (i + 1) (fun x hx => hk x (by simp [hx])) with ⟨a, b, c⟩ | ⟨j, e', a, b, c, d, f⟩
      · refine .inl ⟨hf.trans a, hl.trans b, fun x hx => ?_⟩
        rcases List.mem_cons.1 hx with rfl | hx
        · exact h2
        · exact c x hx
      · refine .inr ⟨j + 1, e', by simpa using a, b, fun j' x hj hx => ?_, by rw [hf, d]; congr 3; omega, hl.trans f⟩
        cases j' with
        | zero => simp at hx; subst hx; exact h2
        | succ j' => exact c j' x (by omega) (by simpa using hx)

theorem find_modify (m n : Int) (v k : Value) : ∀ (es : List MapEntry) (j : Nat) (e : MapEntry), es[j]? = some e → keyIs n e = true → k = .int .i64 n → (∀ j' e', j' < j → es[j']? = some e' → keyIs n e' = false) →
    lk (es.modify j fun e => { e with key := k, val := v }) m = if m = n then some v else lk es m
  | [], j, e, h, _, _, _ => by simp at h
  | x :: es, 0, e, h, hk, hkk, hlt => by
    simp at h; subst h
    have hx : ∃ q, x.key = .int .i64 q ∧ q = n := by
      unfold keyIs at hk
      split at hk
      · rename_i q hq; exact ⟨q, hq, by simpa using hk⟩
      · cases hk
    obtain ⟨q, hq, rfl⟩ := hx
    simp only [List.modify_zero_cons]
    unfold lk
    by_cases hm : m = q
    · subst hm; rw [if_pos rfl, List.find?_cons]; simp [keyIs, hkk]
    · rw [if_neg hm, List.find?_cons, List.find?_cons]
      have e1 : keyIs m x = false := by unfold keyIs; rw [hq]; simp; exact fun h => hm h.symm
      have e2 : keyIs m { x with key := k, val := v } = false := by unfold keyIs; simp [hkk]; exact fun h => hm h.symm
      simp [e1, e2]
  | x :: es, j + 1, e, h, hk, hkk, hlt => by
    have h0 : keyIs n x = false := hlt 0 x (by omega) rfl
    simp only [List.modify_succ_cons]
    have ih := find_modify m n v k es j e (by simpa using h) hk hkk (fun j' e' hj he => hlt (j' + 1) e' (by omega) (by simpa using he))
    unfold lk at ih ⊢
    rw [List.find?_cons, List.find?_cons]
    cases hx : keyIs m x
    · simpa using ih
    · simp
      have : m ≠ n := fun hmn => by subst hmn; rw [h0] at hx; cases hx
      exact fun h => absurd h this

/-- Block g is a map from ints; asked for n it gives 'enc (S n)', 'enc z' being the element type's zero value. -/
def MapR {α : Type} (enc : α → Value) (z : α) (w : World) (g : Nat) (S : Int → α) : Prop :=
  ∃ es clock, w.heap[g]? = some (.map es clock) ∧ KeysI es.toList ∧ ∀ n, (lk es.toList n).getD (enc z) = enc (S n)
section
variable {α : Type} {enc : α → Value} {z : α} {w : World} {g : Nat} {S : Int → α}
theorem MapR.lt (h : MapR enc z w g S) : g < w.heap.size := by
  obtain ⟨es, c, hb, _⟩ := h
  rcases Nat.lt_or_ge g w.heap.size with h' | h'
  · exact h'
  · rw [Array.getElem?_eq_none h'] at hb; cases hb
theorem MapR.of_heap {w' : World} (h : MapR enc z w g S) (hh : w'.heap[g]? = w.heap[g]?) : MapR enc z w' g S := by
  obtain ⟨es, c, hb, r⟩ := h
  exact ⟨es, c, hh.trans hb, r⟩
theorem MapR.up {w' : World} (h : MapR enc z w g S) (hb : Below w.heap.size w w') : MapR enc z w' g S := h.of_heap (hb.block g h.lt)
theorem MapR.grown {w' : World} {g' : Nat} (h : MapR enc z w g S) (hb : w.grownBy w' (some g')) (hne : g ≠ g') : MapR enc z w' g S := h.of_heap (hb.block g h.lt (by intro e; injection e with e; exact hne e))
theorem MapR.set {a : Addr} {v : Value} (h : MapR enc z w g S) (hne : g ≠ a.block) : MapR enc z (w.setCell a v) g S := h.of_heap (Below.heap_setCell _ _ _ _ hne)
theorem MapR.made (w : World) : MapR enc z (w.alloc (.map #[] 0)) w.heap.size (fun _ => z) := by
  refine ⟨#[], 0, ?_, fun e he => by simp at he, fun n => rfl⟩
  show (w.heap.push _)[w.heap.size]? = _
  simp
theorem MapR.made' {w : World} (hg : g = w.heap.size) (hS : S = fun _ => z) : MapR enc z (w.alloc (.map #[] 0)) g S := by subst hg; subst hS; exact MapR.made w
theorem MapR.lookup {P : Program} {t kt et : TypeId} (h : MapR enc z w g S) (ht : P.underlying t = some (.map kt et)) (hk : P.underlying kt = some (.int .i64)) (hz : (zeroValue et).run P w = .ok (enc z) w) (n : Int) :
    (Instr.lookup t (.map (some g)) (.int .i64 n) false).run P w = .ok (enc (S n)) w := by
  obtain ⟨es, c, hb, hK, hS⟩ := h
  have hS' := hS n
  have hc : ∀ b : Bool, (Instr.checkKey b 10000 kt (.int .i64 n)).run P w = .ok () w := fun b => by
    unfold Instr.checkKey; simp [run_underlying hk]
  have hfk : ∀ r, Instr.findNow (.int .i64) (.int .i64 n) es.toList 0 = some r → (Instr.findKey kt (.int .i64 n) es.toList).run P w = .ok r w := fun r hr => by
    unfold Instr.findKey; simp [run_underlying hk, hr]
  rcases findNow_lk n es.toList 0 hK with ⟨a, b, _⟩ | ⟨j, e, _, _, _, d, f⟩
  · rw [b] at hS'
    simp [Instr.lookup, run_underlying ht, MapKept.run_getObj_map hb, hc, hfk _ a, hz, Result.andThen]
    simpa using hS'
  · rw [f] at hS'
    simp [Instr.lookup, run_underlying ht, MapKept.run_getObj_map hb, hc, hfk _ d, hz, Result.andThen]
    simpa using hS'
theorem sameBits_int (m : Nat) (n : Int) : Instr.sameBits m (.int .i64 n) (.int .i64 n) = true := by cases m <;> simp [Instr.sameBits]
theorem MapR.update {P : Program} {t kt et : TypeId} (h : MapR enc z w g S) (ht : P.underlying t = some (.map kt et)) (hk : P.underlying kt = some (.int .i64)) (n : Int) (x : α) :
    ∃ w', (Instr.mapUpdate t (.map (some g)) (.int .i64 n) (enc x)).run P w = .ok () w' ∧ MapR enc z w' g (fun m => if m = n then x else S m) ∧ w.grownBy w' (some g) ∧ w'.heap.size = w.heap.size := by
  have hglt := h.lt
  obtain ⟨es, c, hb, hK, hS⟩ := h
  have hc : ∀ b : Bool, (Instr.checkKey b 10000 kt (.int .i64 n)).run P w = .ok () w := fun b => by
    unfold Instr.checkKey; simp [run_underlying hk]
  have hfk : ∀ r, Instr.findNow (.int .i64) (.int .i64 n) es.toList 0 = some r → (Instr.findKey kt (.int .i64 n) es.toList).run P w = .ok r w := fun r hr => by
    unfold Instr.findKey; simp [run_underlying hk, hr]
  have hset : ∀ o : Obj, (∀ a b d, o ≠ .cells a b d) → ∀ w1 : World, w1 = { w with heap := w.heap.setIfInBounds g o } → w.grownBy w1 (some g) ∧ w1.heap[g]? = some o := fun o ho w1 e => by
    subst e
    refine ⟨⟨rfl, rfl, rfl, by simp, fun k hk hne => ?_⟩, ?_⟩
    · simp only [Array.getElem?_setIfInBounds]
      rw [if_neg (fun e => hne (by rw [e]))]
    · simp [Array.getElem?_setIfInBounds, hglt]
  rcases findNow_lk n es.toList 0 hK with ⟨a, b, hno⟩ | ⟨j, e, he, hki, hfirst, d, f⟩
  · obtain ⟨hg, hgg⟩ := hset (.map (es.push { key := .int .i64 n, val := enc x, born := c }) (c + 1)) (by simp) _ rfl
    refine ⟨_, ?_, ⟨_, _, hgg, ?_, ?_⟩, hg, by simp⟩
    · simp [Instr.mapUpdate, run_underlying ht, MapKept.run_getObj_map hb, hc, hfk _ a, MapKept.run_setObj_map _ hb, Result.andThen]
    · intro y hy
      simp at hy
      rcases hy with hy | rfl
      · exact hK y (by simpa using hy)
      · exact ⟨n, rfl⟩
    · intro m
      have hl : lk (es.push { key := .int .i64 n, val := enc x, born := c }).toList m = if m = n then some (enc x) else lk es.toList m := by
        unfold lk
        simp only [Array.toList_push, List.find?_append]
        by_cases hm : m = n
        · subst hm
          have : es.toList.find? (keyIs m) = none := List.find?_eq_none.2 (fun y hy => by rw [hno y hy]; simp)
          simp [this, keyIs]
        · have : [({ key := .int .i64 n, val := enc x, born := c } : MapEntry)].find? (keyIs m) = none := by
            simp [keyIs]; exact fun h => hm h.symm
          simp [this, hm]
      rw [hl]
      by_cases hm : m = n
      · simp [hm]
      · simp [hm]; exact hS m
  · obtain ⟨q, hq⟩ := hK e (List.mem_of_getElem? he)
    have hqn : q = n := by unfold keyIs at hki; rw [hq] at hki; simpa using hki
    subst hqn
    obtain ⟨hg, hgg⟩ := hset (.map (es.modify j fun e => { e with key := .int .i64 q, val := enc x }) c) (by simp) _ rfl
    refine ⟨_, ?_, ⟨_, _, hgg, ?_, ?_⟩, hg, by simp⟩
    · have hej : es[j]? = some e := by simpa using he
      simp only [Nat.zero_add] at d
      simp [Instr.mapUpdate, run_underlying ht, MapKept.run_getObj_map hb, hc, hfk _ d, hej, Instr.keyThatStays, hq, sameBits_int, MapKept.run_setObj_map _ hb, Result.andThen]
    · intro y hy
      simp only [Array.toList_modify] at hy
      obtain ⟨i, hi, rfl⟩ := List.mem_iff_getElem.1 hy
      rw [List.getElem_modify]
      split
      · exact ⟨q, rfl⟩
      · exact hK _ (List.getElem_mem _)
    · intro m
      rw [Array.toList_modify, find_modify m q (enc x) (.int .i64 q) es.toList j e he hki rfl hfirst]
      by_cases hm : m = q
      · simp [hm]
      · simp [hm]; exact hS m
end

theorem wpList_mapUpd {α : Type} (enc : α → Value) (z : α) {P : Program} {w : World} {ops : Array Oper} {rest : List Oper} {o : Oper} {a : Act} {Q : Exit → Act → World → Prop}
    (hg : o.guard = none) (m x v : Operand) (t kt et : TypeId) (hop : o.op = Op.mapUpdate t m x v ∨ o.op = Op.insert t m x v) (ht : P.underlying t = some (.map kt et)) (hk : P.underlying kt = some (.int .i64))
    {g : Nat} {S : Int → α} (hR : MapR enc z w g S) (hm : a.eval m = .map (some g)) (n : Int) (hx : a.eval x = .int .i64 n) (y : α) (hv : a.eval v = enc y)
    (hK : ∀ w', MapR enc z w' g (fun m => if m = n then y else S m) → w.grownBy w' (some g) → w'.heap.size = w.heap.size → wpList P ops Q rest (a.put o.dst undef) w') : wpList P ops Q (o :: rest) a w := by
  refine wpList_plain hg fun K' hK' => ?_
  obtain ⟨w', hrun, r1, r2, r3⟩ := hR.update ht hk n y
  unfold Oper.wp
  rcases hop with hop | hop
  · simp [execOp, hop, hm, hx, hv, hrun, Result.andThen]
    exact hK' _ _ (hK w' r1 r2 r3)
  · simp [execOp, hop, hm, hx, hv, hrun, Result.andThen]
    exact hK' _ _ (hK w' r1 r2 r3)
theorem bel_grown {w x y : World} {g : Nat} (h : Below w.heap.size w x) (hg : x.grownBy y (some g)) (hB : w.heap.size ≤ g) : Below w.heap.size w y :=
  h.grown hg h.size (fun k hk => by injection hk with hk; omega)
theorem gcell {x y : World} {g : Nat} (hg : x.grownBy y (some g)) : ∀ b o, b < x.heap.size → b ≠ g → y.cell? ⟨b, o, none⟩ = x.cell? ⟨b, o, none⟩ :=
  fun b o h hne => World.cell?_of_block (hg.block b h (fun e => hne (by injection e)))

/-- A block of the call's own reads as these cells. -/
def BoxR (w : World) (g : Nat) (cs : List Value) : Prop := g < w.heap.size ∧ ∀ j v, cs[j]? = some v → w.cell? ⟨g, j, none⟩ = some v
theorem BoxR.up {w w' : World} {g cs} (h : BoxR w g cs) (hb : Below w.heap.size w w') : BoxR w' g cs :=
  ⟨Nat.lt_of_lt_of_le h.1 hb.size, fun j v hv => (hb.cell (p := ⟨g, j, none⟩) h.1).trans (h.2 j v hv)⟩
theorem BoxR.grown {w w' : World} {g g' cs} (h : BoxR w g cs) (hb : w.grownBy w' (some g')) (hne : g ≠ g') : BoxR w' g cs :=
  ⟨Nat.lt_of_lt_of_le h.1 hb.size, fun j v hv => (gcell hb g j h.1 hne).trans (h.2 j v hv)⟩
theorem BoxR.set {w : World} {g : Nat} {cs : List Value} (h : BoxR w g cs) {a : Addr} {v : Value} (hne : g ≠ a.block) : BoxR (w.setCell a v) g cs :=
  ⟨by simpa [World.setCell] using h.1, fun j u hu => (World.cell?_of_block (w := w) (a := ⟨g, j, none⟩) (Below.heap_setCell _ _ _ _ hne)).trans (h.2 j u hu)⟩
theorem BoxR.new (w : World) (cs : List Value) (t : TypeId) : BoxR (w.alloc (.cells cs.toArray t)) w.heap.size cs := by
  refine ⟨by simp, fun j v hv => ?_⟩
  simp [hv]
theorem BoxR.new' {g : Nat} (w : World) (cs : List Value) (t : TypeId) (hg : g = w.heap.size) : BoxR (w.alloc (.cells cs.toArray t)) g cs := hg ▸ BoxR.new w cs t
end
/-! part O -/
section
open Go.RowKit
/-- The slice value v owns, in a block from B on (or is nil), the numbers l. -/
def OwnI (w : World) (B : Nat) (v : Value) (l : List Int) : Prop := w.ownsRow B 3 1 v l.length (l.map (Value.int .i64))
section
variable {w w' : World} {B : Nat} {v : Value} {l : List Int}
theorem OwnI.nil (w : World) (B : Nat) : OwnI w B (.slice none 0 0) [] := World.ownsRow_nil w B _ _
theorem OwnI.of_heap (h : OwnI w B v l) (hh : ∀ g, v.ownBlock = some g → w'.heap[g]? = w.heap[g]?) : OwnI w' B v l := by
  refine ⟨h.1, ?_⟩
  rcases h.2 with hn | ⟨g, cap, cur, rfl, hb, hgg, rest⟩
  · exact .inl hn
  · exact .inr ⟨g, cap, cur, rfl, hb, (hh g rfl).trans hgg, rest⟩
theorem OwnI.lt (h : OwnI w B v l) : ∀ k, v.ownBlock = some k → B ≤ k ∧ k < w.heap.size := World.ownsRow.lt h
theorem OwnI.up (h : OwnI w B v l) (hb : Below w.heap.size w w') : OwnI w' B v l := h.of_heap fun g hg => hb.block g (h.lt g hg).2
theorem OwnI.alloc (h : OwnI w B v l) (o : Obj) : OwnI (w.alloc o) B v l := h.up ((Below.refl _ _).alloc (Nat.le_refl _) _)
theorem OwnI.set (h : OwnI w B v l) {p : Addr} (hp : p.block < B) (u : Value) : OwnI (w.setCell p u) B v l := h.of_heap fun g hg => Below.heap_setCell _ _ _ _ (by have := (h.lt g hg).1; omega)
theorem OwnI.grown {g : Nat} (h : OwnI w B v l) (hg : w.grownBy w' (some g)) (hp : g < B) : OwnI w' B v l := h.of_heap fun k hk => hg.block k (h.lt k hk).2 (by intro e; injection e with e; have := (h.lt k hk).1; omega)
theorem OwnI.mono {B' : Nat} (h : OwnI w B v l) (hB : B' ≤ B) : OwnI w B' v l := by
  refine ⟨h.1, ?_⟩
  rcases h.2 with hn | ⟨g, cap, cur, rfl, hb, rest⟩
  · exact .inl hn
  · exact .inr ⟨g, cap, cur, rfl, by omega, rest⟩
/-- What is owned is a slice that reads as l. -/
theorem OwnI.ints (h : OwnI w B v l) (hl : l.length ≤ 9223372036854775807) : ∃ A c, v = .slice A l.length c ∧ IntsR w A l.length l ∧ (∀ b off sp, A = some ⟨b, off, sp⟩ → B ≤ b) := by
  rcases h.2 with ⟨rfl, hn⟩ | ⟨g, cap, cur, rfl, hb, hgg, rest⟩
  · have hl0 : l = [] := by simpa using hn
    subst hl0
    exact ⟨none, 0, rfl, ⟨rfl, by simp, fun h => absurd h (by simp)⟩, fun b off sp e => by cases e⟩
  · refine ⟨_, _, rfl, ⟨rfl, hl, fun _ => ⟨g, 0, rfl, (Array.getElem?_eq_some_iff.1 hgg).1, fun j hj => ?_⟩⟩, fun b off sp e => by injection e with e; injection e with e1 e2 e3; omega⟩
    have := World.ownsRow.cells h (g := g) rfl j (.int .i64 (nth l j)) (by simp [nth, hj])
    simpa [Addr.add_lit] using this
end

theorem int_info : (Tryz.prog.info? 3).map (fun i => (i.zero, i.size, i.bytes)) = some (some (.int .i64 0), 1, 8) := by kernel_rfl
theorem cell0_alloc (w : World) (x : Value) (t : TypeId) : (w.alloc (.cells #[x] t)).cell? ⟨w.heap.size, 0, none⟩ = some x := by simp
theorem le_alloc {w : World} {o : Obj} {B : Nat} (h : B ≤ w.heap.size) : B ≤ (w.alloc o).heap.size := by simp; omega
/-- append of one number to a row of one's own. -/
theorem wpList_app1 {w : World} {ops : Array Oper} {rest : List Oper} {o : Oper} {a : Act} {Q : Exit → Act → World → Prop} (hgd : o.guard = none) (s x : Operand)
    (ho : o.op = .call { callee := .builtin .append, args := #[s, x], argTypes := #[25, 25] })
    (B : Nat) (v : Value) (l : List Int) (hs : a.eval s = v) (hown : OwnI w B v l) (g : Nat) (y : Int) (hx : a.eval x = .slice (some ⟨g, 0, none⟩) 1 1) (hc : w.cell? ⟨g, 0, none⟩ = some (.int .i64 y))
    (hlen : l.length ≤ 1000000000) (hB : B ≤ w.heap.size)
    (h : ∀ v' w', OwnI w' B v' (l ++ [y]) → w.grownBy w' v.ownBlock → Below B w w' → (v'.ownBlock = v.ownBlock ∨ v'.ownBlock = some w.heap.size) → wpList Tryz.prog ops Q rest (a.put o.dst v') w') : wpList Tryz.prog ops Q (o :: rest) a w := by
  obtain ⟨i0, hi, hz, hz1, hz2⟩ := info_parts int_info
  refine wpList_plain hgd fun K hK => ?_
  obtain ⟨v', w', hrun, h2, h3, _, h5⟩ := run_append_own_at (P := Tryz.prog) w B 25 o.type 3 i0 (.int .i64 0) 1 8 Tryz.underlying25 hi hz hz1 hz2 rfl (by omega) v l.length (l.map (Value.int .i64)) hown ⟨g, 0, none⟩ 1 1 [.int .i64 y] rfl
    (by intro j u hu; cases j with
        | zero => simp at hu; subst hu; simpa [Addr.add] using hc
        | succ j => simp at hu) (by simp [Value.oneCell']) (by simp only [maxLen]; omega) (by omega) hB
  have hown' : OwnI w' B v' (l ++ [y]) := by unfold OwnI; simpa using h2
  have hbel : Below B w w' := ⟨h3.os, h3.tape, h3.output, h3.size, fun k hk => h3.block k (by omega) (fun e => by have := (hown.lt k e.symm).1; omega)⟩
  unfold Oper.wp execOp
  simp only [ho, resolve, invoke, builtin, Sem.run_bind, Sem.run_pure, Result.andThen_ok, List.map_toArray, List.map_cons, List.map_nil, hs, hx, hrun]
  exact hK _ _ (h v' w' hown' h3 hbel h5)

/-! ### boxes kept below a bound -/
theorem BoxR.below {w w' : World} {B g : Nat} {cs : List Value} (h : BoxR w g cs) (hb : Below B w w') (hg : g < B) : BoxR w' g cs :=
  ⟨Nat.lt_of_lt_of_le h.1 hb.size, fun j v hv => (hb.cell (p := ⟨g, j, none⟩) hg).trans (h.2 j v hv)⟩
theorem MapR.below {α : Type} {enc : α → Value} {z : α} {w w' : World} {B g : Nat} {S : Int → α} (h : MapR enc z w g S) (hb : Below B w w') (hg : g < B) : MapR enc z w' g S := h.of_heap (hb.block g hg)
/-- A block known whole: its cells, none frozen. -/
def Blk (w : World) (g : Nat) (t : TypeId) (cs : List Value) : Prop := w.heap[g]? = some (.cells cs.toArray t (0, 0))
section
variable {w w' : World} {g : Nat} {t : TypeId} {cs : List Value}
theorem Blk.lt (h : Blk w g t cs) : g < w.heap.size := by
  rcases Nat.lt_or_ge g w.heap.size with hlt | hge
  · exact hlt
  · unfold Blk at h; rw [Array.getElem?_eq_none hge] at h; cases h
theorem Blk.box (h : Blk w g t cs) : BoxR w g cs := ⟨h.lt, fun j v hv => by unfold Blk at h; simp [World.cell?, h, hv]⟩
theorem Blk.frozen (h : Blk w g t cs) (i : Nat) : w.frozen? ⟨g, i, none⟩ = false := by unfold Blk at h; simp [World.frozen?, h]
theorem Blk.new (w : World) (t : TypeId) (cs : List Value) : Blk (w.alloc (.cells cs.toArray t)) w.heap.size t cs := heap_alloc_new w _
theorem Blk.of_heap (h : Blk w g t cs) (hh : w'.heap[g]? = w.heap[g]?) : Blk w' g t cs := hh.trans h
theorem Blk.up (h : Blk w g t cs) (hb : Below w.heap.size w w') : Blk w' g t cs := h.of_heap (hb.block g h.lt)
theorem Blk.below {B : Nat} (h : Blk w g t cs) (hb : Below B w w') (hg : g < B) : Blk w' g t cs := h.of_heap (hb.block g hg)
theorem Blk.grown {g' : Nat} (h : Blk w g t cs) (hb : w.grownBy w' (some g')) (hne : g ≠ g') : Blk w' g t cs := h.of_heap (hb.block g h.lt (by intro e; injection e with e; exact hne e))
theorem Blk.far (h : Blk w g t cs) {p : Addr} (hp : g ≠ p.block) (u : Value) : Blk (w.setCell p u) g t cs := h.of_heap (Below.heap_setCell w p u g hp)
theorem Blk.set_ (h : Blk w g t cs) (i : Nat) (u : Value) : Blk (w.setCell ⟨g, i, none⟩ u) g t (cs.set i u) := by
  unfold Blk at h ⊢
  simp [World.setCell, Array.getElem?_modify, h]
end

/-- A whole variable is stored into a block of one's own. -/
theorem wpList_storeBlk {P : Program} {w : World} {ops : Array Oper} {rest : List Oper} {o : Oper} {a : Act} {Q : Exit → Act → World → Prop} (hgd : o.guard = none) (x v : Operand) (t : TypeId)
    (ho : o.op = Op.store t x v) (g : Nat) (tt : TypeId) (cs cs' : List Value) (hsz : (P.info? t).map (·.size) = some cs'.length) (hB : Blk w g tt cs) (hx : a.eval x = .pointer (some ⟨g, 0, none⟩)) (hv : a.eval v = .agg cs'.toArray)
    (hl : cs'.length = cs.length) (h1 : cs'.all (·.oneCell') = true)
    (hK : ∀ w2, Blk w2 g tt cs' → w.grownBy w2 (some g) → w2.heap.size = w.heap.size → wpList P ops Q rest (a.put o.dst undef) w2) : wpList P ops Q (o :: rest) a w := by
  refine wpList_plain hgd fun K hKK => ?_
  have hrun := run_storeCells_from (P := P) g tt cs' 0 cs.toArray w hB (by simp [hl]) (fun u hu => List.all_eq_true.1 h1 u hu)
  simp only [List.take_zero, List.nil_append] at hrun
  obtain ⟨i, hi, hi2⟩ := Option.map_eq_some_iff.1 hsz
  have hst : (Instr.storeAt t (.pointer (some ⟨g, 0, none⟩)) (.agg cs'.toArray)).run P w = .ok () (w.setRow g cs'.toArray) := by
    simp [Instr.storeAt, Instr.sureAddr, storeVar, sizeOf, typeInfo, hi, hi2, Value.cells, hrun]
  unfold Oper.wp
  simp only [execOp, ho, hx, hv]
  simp [hst, Result.andThen]
  refine hKK _ _ (hK _ (setRow_heap w g cs.toArray _ tt _ hB) ⟨rfl, rfl, rfl, by simp [World.setRow], fun k hk hne => ?_⟩ (by simp [World.setRow]))
  simp only [World.setRow, Array.getElem?_modify]
  rw [if_neg (fun e => hne (by rw [e]))]

/-! ### a scope with two labels: one is jumped back to, the other only forward -/
def Exit.jump2 (l0 : Nat) (J0 : Act → World → Prop) (l1 : Nat) (J1 : Act → World → Prop) (Q : Exit → Act → World → Prop) : Exit → Act → World → Prop
  | .goto l', a, w => (l' = l0 ∧ J0 a w) ∨ (l' = l1 ∧ J1 a w)
  | e, a, w => Q e a w

section
variable {P : Program} {a : Act} {w : World} {Q : Exit → Act → World → Prop}
theorem wp_skip_seq {c : Code} (h : c.wp P Q a w) : (Code.seq .skip c).wp P Q a w := wp_seq (wp_skip h)
theorem jump2_mono {l0 l1 : Nat} {J0 J1 J1' : Act → World → Prop} (h : ∀ a w, J1 a w → J1' a w) (e : Exit) (a : Act) (w : World) (hq : Exit.jump2 l0 J0 l1 J1 Q e a w) : Exit.jump2 l0 J0 l1 J1' Q e a w := by
  cases e with
  | goto l => exact hq.imp id (fun ⟨x, y⟩ => ⟨x, h _ _ y⟩)
  | _ => exact hq
/-- Two labels: l1 is jumped back to, l0 only forward. -/
theorem wp_scope_two {c b0 b1 : Code} (l0 l1 : Nat) (J0 J1 : Act → World → Prop) (μ : Act → World → Nat) (hf0 : findLabel c l0 = some (.seq .skip b0)) (hf1 : findLabel c l1 = some (.seq .skip b1))
    (first : (∀ a w, J1 a w → b1.wp P (Exit.jump2 l0 J0 l1 J1 Q) a w) → c.wp P (Exit.jump2 l0 J0 l1 J1 Q) a w)
    (pass : ∀ a w, J1 a w → b1.wp P (Exit.jump2 l0 J0 l1 (fun a' w' => J1 a' w' ∧ μ a' w' < μ a w) Q) a w)
    (last : ∀ a w, J0 a w → b0.wp P (Exit.noGoto Q) a w) : (Code.scope c).wp P Q a w := by
  have first := first fun a w hJ => Code.wp_mono (jump2_mono fun _ _ h => h.1) (pass a w hJ)
  have pass : ∀ a w, J1 a w → (Code.seq .skip b1).wp P (Exit.jump2 l0 J0 l1 (fun a' w' => J1 a' w' ∧ μ a' w' < μ a w) Q) a w := fun a w h => wp_skip_seq (pass a w h)
  have last : ∀ a w, J0 a w → (Code.seq .skip b0).wp P (Exit.noGoto Q) a w := fun a w h => wp_skip_seq (last a w h)
  intro b k cs
  have hg0 : gotoIn l0 (.inScope c :: k) = some (.code (.seq .skip b0) :: .inScope c :: k) := by simp [gotoIn, hf0]
  have hg1 : gotoIn l1 (.inScope c :: k) = some (.code (.seq .skip b1) :: .inScope c :: k) := by simp [gotoIn, hf1]
  have key0 : ∀ a w, J0 a w → ∃ e a' w', Q e a' w' ∧ Arrives P (lone (b.at a (.code (.seq .skip b0) :: .inScope c :: k)) cs w) b k cs e a' w' := by
    intro a w hJ
    obtain ⟨e, a₁, w₁, hq, harr⟩ := last a w hJ b (.inScope c :: k) cs
    cases e with
    | normal => exact ⟨.normal, a₁, w₁, hq, Steps.trans harr (.one step_inScope)⟩
    | exit id => exact ⟨.exit id, a₁, w₁, hq, fun k' hk => harr k' (by simp [exitTo, hk])⟩
    | goto l' => exact hq.elim
    | ret => exact ⟨_, a₁, w₁, hq, harr⟩
    | panic ch => exact ⟨_, a₁, w₁, hq, harr⟩
    | outgrown => exact ⟨_, a₁, w₁, hq, harr⟩
  have key : ∀ n a w, μ a w = n → J1 a w → ∃ e a' w', Q e a' w' ∧ Arrives P (lone (b.at a (.code (.seq .skip b1) :: .inScope c :: k)) cs w) b k cs e a' w' := by
    intro n
    induction n using Nat.strongRecOn with
    | _ n ih =>
      intro a w hn hJ
      obtain ⟨e, a₁, w₁, hq, harr⟩ := pass a w hJ b (.inScope c :: k) cs
      cases e with
      | normal => exact ⟨.normal, a₁, w₁, hq, Steps.trans harr (.one step_inScope)⟩
      | exit id => exact ⟨.exit id, a₁, w₁, hq, fun k' hk => harr k' (by simp [exitTo, hk])⟩
      | goto l' =>
        rcases hq with ⟨rfl, hJ'⟩ | ⟨rfl, hJ', hlt⟩
        · obtain ⟨e₂, a₂, w₂, hq₂, harr₂⟩ := key0 a₁ w₁ hJ'
          exact ⟨e₂, a₂, w₂, hq₂, .of_steps (harr _ hg0) harr₂⟩
        · obtain ⟨e₂, a₂, w₂, hq₂, harr₂⟩ := ih _ (by omega) a₁ w₁ rfl hJ'
          exact ⟨e₂, a₂, w₂, hq₂, .of_steps (harr _ hg1) harr₂⟩
      | ret => exact ⟨_, a₁, w₁, hq, harr⟩
      | panic ch => exact ⟨_, a₁, w₁, hq, harr⟩
      | outgrown => exact ⟨_, a₁, w₁, hq, harr⟩
  obtain ⟨e, a₁, w₁, hq, harr⟩ := first b (.inScope c :: k) cs
  cases e with
  | normal => exact ⟨.normal, a₁, w₁, hq, .head step_scope (Steps.trans harr (.one step_inScope))⟩
  | exit id => exact ⟨.exit id, a₁, w₁, hq, fun k' hk => .head step_scope (harr k' (by simp [exitTo, hk]))⟩
  | goto l' =>
    rcases hq with ⟨rfl, hJ'⟩ | ⟨rfl, hJ'⟩
    · obtain ⟨e₂, a₂, w₂, hq₂, harr₂⟩ := key0 a₁ w₁ hJ'
      exact ⟨e₂, a₂, w₂, hq₂, .of_steps (.head step_scope (harr _ hg0)) harr₂⟩
    · obtain ⟨e₂, a₂, w₂, hq₂, harr₂⟩ := key _ a₁ w₁ rfl hJ'
      exact ⟨e₂, a₂, w₂, hq₂, .of_steps (.head step_scope (harr _ hg1)) harr₂⟩
  | ret => exact ⟨_, a₁, w₁, hq, .of_steps (.one step_scope) harr⟩
  | panic ch => exact ⟨_, a₁, w₁, hq, .of_steps (.one step_scope) harr⟩
  | outgrown => exact ⟨_, a₁, w₁, hq, .of_steps (.one step_scope) harr⟩
/-- One label, jumped back to. -/
theorem wp_scope_back {c b1 : Code} (l1 : Nat) (J1 : Act → World → Prop) (μ : Act → World → Nat) (hf1 : findLabel c l1 = some (.seq .skip b1))
    (first : (∀ a w, J1 a w → b1.wp P (Exit.jump l1 J1 Q) a w) → c.wp P (Exit.jump l1 J1 Q) a w)
    (pass : ∀ a w, J1 a w → b1.wp P (Exit.jump l1 (fun a' w' => J1 a' w' ∧ μ a' w' < μ a w) Q) a w) : (Code.scope c).wp P Q a w :=
  wp_scope_jumps l1 J1 μ hf1 (first fun a w hJ => Code.wp_mono (fun e a w hq => by
    cases e with
    | goto l => exact ⟨hq.1, hq.2.1⟩
    | _ => exact hq) (pass a w hJ)) (fun a w h => wp_skip_seq (pass a w h))
/-- One label, jumped forward to. -/
theorem wp_scope_fwd {c b0 : Code} (l0 : Nat) (J0 : Act → World → Prop) (hf0 : findLabel c l0 = some (.seq .skip b0))
    (first : c.wp P (Exit.jump l0 J0 Q) a w) (last : ∀ a w, J0 a w → b0.wp P (Exit.noGoto Q) a w) : (Code.scope c).wp P Q a w :=
  wp_scope_jumps l0 J0 (fun _ _ => 0) hf0 first (fun a w h => wp_skip_seq (Code.wp_mono (fun e a w hq => by
    cases e with
    | goto l => exact hq.elim
    | _ => exact hq) (last a w h)))
end
end
/-! part Gr -/
section
open Go.RowKit
/-- copy of k-cell elements into a block known whole. -/
theorem run_copyK {P : Program} (w : World) (dT sT ty elem : TypeId) (g o dLen dCap : Nat) (a : Addr) (sLen sCap k : Nat) (cur : Array Value) (t : TypeId) (cs : List Value)
    (hu : P.underlying dT = some (.slice elem)) (hs : (P.info? elem).map (·.size) = some k)
    (hg : w.heap[g]? = some (.cells cur t (0, 0))) (hn : cs.length = Nat.min sLen dLen * k)
    (hsrc : ∀ j v, cs[j]? = some v → w.cell? (a.add j) = some v) (hfit : o + cs.length ≤ cur.size) (h1 : ∀ v ∈ cs, v.oneCell' = true) :
    (Builtin.copy_ #[dT, sT] ty #[.slice (some ⟨g, o, none⟩) dLen dCap, .slice (some a) sLen sCap]).run P w =
      .ok (goInt (Nat.min sLen dLen)) (w.setRow g (cur.toList.take o ++ cs ++ cur.toList.drop (o + cs.length)).toArray) := by
  have hl := run_loadCells_list (P := P) w a cs hsrc
  have hst := run_storeCells_at P g o t cs 0 cur w hg (by simpa using hfit) h1
  cases hq : P.info? elem with
  | none => simp [hq] at hs
  | some i =>
    have hi : i.size = k := by simpa [hq] using hs
    simp [Builtin.copy_, run_underlying hu, Builtin.lenOf, Builtin.firstCells, sizeOf, typeInfo, hq, hi, ← hn, hl, hst]
theorem wp_copy_runR {P : Program} (w : World) {o : Oper} {a : Act} {K : Act → World → Prop} {Q : Exit → Act → World → Prop} (d s : Operand) (t t' : TypeId)
    (ho : o.op = .call { callee := .builtin .copy, args := #[d, s], argTypes := #[t, t'] }) (v u : Value) (hd : a.eval d = v) (hs : a.eval s = u) {v' : Value} {w' : World}
    (hr : (Builtin.copy_ #[t, t'] o.type #[v, u]).run P w = .ok v' w') (h : K (a.put o.dst v') w') : o.wp P a w K Q := by
  unfold Oper.wp execOp
  simp only [ho, resolve, invoke, builtin, Sem.run_bind, Sem.run_pure, Result.andThen_ok, List.map_toArray, List.map_cons, List.map_nil, hd, hs, hr]
  exact h
theorem wpList_copy_runR {P : Program} (w : World) {ops : Array Oper} {rest : List Oper} {o : Oper} {a : Act} {Q : Exit → Act → World → Prop} (hgd : o.guard = none) (d s : Operand) (t t' : TypeId)
    (ho : o.op = .call { callee := .builtin .copy, args := #[d, s], argTypes := #[t, t'] }) (v u : Value) (hd : a.eval d = v) (hs : a.eval s = u) {v' : Value} {w' : World}
    (hr : (Builtin.copy_ #[t, t'] o.type #[v, u]).run P w = .ok v' w') (h : wpList P ops Q rest (a.put o.dst v') w') : wpList P ops Q (o :: rest) a w :=
  wpList_plain hgd fun _ hK => wp_copy_runR w d s t t' ho v u hd hs hr (hK _ _ h)
theorem step_copy_runR {P : Program} {ops : Array Oper} {o : Oper} {a : Act} {w : World} {K : Act → World → Prop} {Q : Exit → Act → World → Prop} {E : Prop}
    (hg : o.guard = none) (d x : Operand) (dT sT : TypeId) (hop : o.op = Op.call { callee := Callee.builtin Builtin.copy, args := #[d, x], argTypes := #[dT, sT] })
    (v u : Value) (hd : a.eval d = v) (hx : a.eval x = u) {v' : Value} {w' : World} (hr : (Builtin.copy_ #[dT, sT] o.type #[v, u]).run P w = .ok v' w') (hK : K (a.put o.dst v') w') :
    if Region.wanted o (yielded ops a.tmps) = true then Oper.wp P o a w K Q else E := by
  have hw : Region.wanted o (yielded ops a.tmps) = true := by simp [Region.wanted, hg]
  rw [if_pos hw]
  exact wp_copy_runR w d x dT sT hop v u hd hx hr hK

/-! ### a place put in, in plain lists -/
theorem ins_new {α : Type} {a N k : Nat} {xs e R : List α} (hx : xs.length = N) (he : e.length = k) (ha : a ≤ N) (hR : R.take a = xs.take a) (hl : N + k ≤ R.length) :
    ((R.take a ++ e ++ R.drop (a + e.length)).take (a + k) ++ xs.drop a ++ (R.take a ++ e ++ R.drop (a + e.length)).drop (a + k + (xs.drop a).length)).take (N + k) = xs.take a ++ e ++ xs.drop a ∧
    ((R.take a ++ e ++ R.drop (a + e.length)).take (a + k) ++ xs.drop a ++ (R.take a ++ e ++ R.drop (a + e.length)).drop (a + k + (xs.drop a).length)).length = R.length := by
  have h1 : (R.take a ++ e).length = a + k := by rw [List.length_append, List.length_take, he]; omega
  have h2 : (R.take a ++ e ++ R.drop (a + e.length)).take (a + k) = xs.take a ++ e := by rw [List.take_left' h1, hR]
  constructor
  · rw [h2]
    refine List.take_left' ?_
    simp only [List.length_append, List.length_take, List.length_drop]; omega
  · rw [h2]
    simp only [List.length_append, List.length_take, List.length_drop]; omega
theorem ins_room {α : Type} {a N k : Nat} {xs e R : List α} (hx : xs.length = N) (he : e.length = k) (ha : a ≤ N) (hR : R.take N = xs) (hl : N + k ≤ R.length) :
    ((R.take (a + k) ++ xs.drop a ++ R.drop (a + k + (xs.drop a).length)).take a ++ e ++ (R.take (a + k) ++ xs.drop a ++ R.drop (a + k + (xs.drop a).length)).drop (a + e.length)).take (N + k) = xs.take a ++ e ++ xs.drop a ∧
    ((R.take (a + k) ++ xs.drop a ++ R.drop (a + k + (xs.drop a).length)).take a ++ e ++ (R.take (a + k) ++ xs.drop a ++ R.drop (a + k + (xs.drop a).length)).drop (a + e.length)).length = R.length := by
  have hd : (xs.drop a).length = N - a := by rw [List.length_drop, hx]
  have h0 : (R.take (a + k)).length = a + k := by rw [List.length_take]; omega
  have h1 : (R.take (a + k) ++ xs.drop a ++ R.drop (a + k + (xs.drop a).length)).take a = xs.take a := by
    rw [List.append_assoc, List.take_append_of_le_length (by omega), List.take_take, ← hR, List.take_take]
    congr 1; omega
  have h2 : (R.take (a + k) ++ xs.drop a ++ R.drop (a + k + (xs.drop a).length)).drop (a + e.length) = xs.drop a ++ R.drop (a + k + (xs.drop a).length) := by
    rw [List.append_assoc, he, List.drop_left' h0]
  rw [h1, h2]
  constructor
  · rw [← List.append_assoc]
    refine List.take_left' ?_
    simp only [List.length_append, List.length_take, hd]; omega
  · simp only [List.length_append, List.length_take, List.length_drop, hd]; omega

/-! ### elements of k cells -/
/-- The slice (A, n, _) reads as these cells, k an element. -/
def RowV (w : World) (A : Option Addr) (n k : Nat) (xs : List Value) : Prop :=
  xs.length = n * k ∧ n ≤ 9223372036854775807 ∧ (0 < n → ∃ b off, A = some ⟨b, off, none⟩ ∧ b < w.heap.size ∧ ∀ j u, xs[j]? = some u → w.cell? ⟨b, off + j, none⟩ = some u)
theorem RowV.up {w w' : World} {A n k xs} (h : RowV w A n k xs) (hb : Below w.heap.size w w') : RowV w' A n k xs := by
  obtain ⟨h1, h2, h3⟩ := h
  refine ⟨h1, h2, fun hn => ?_⟩
  obtain ⟨b, off, rfl, hlt, hc⟩ := h3 hn
  exact ⟨b, off, rfl, Nat.lt_of_lt_of_le hlt hb.size, fun j u hj => (hb.cell (p := ⟨b, off + j, none⟩) hlt).trans (hc j u hj)⟩
theorem own_row {w : World} {B k n : Nat} {t : TypeId} {v : Value} {xs : List Value} (h : w.ownsRow B t k v n xs) (hn : n ≤ 9223372036854775807) : ∃ A c, v = .slice A n c ∧ RowV w A n k xs ∧ (∀ b off sp, A = some ⟨b, off, sp⟩ → B ≤ b) ∧ n ≤ c ∧ c ≤ 9223372036854775807 := by
  rcases h.2 with ⟨rfl, rfl⟩ | ⟨g, cap, cur, rfl, hb, hg, hnc, hcm, hsz, htk⟩
  · exact ⟨none, 0, rfl, ⟨h.1, by omega, fun h => absurd h (by omega)⟩, (fun b off sp e => by cases e), by omega, by omega⟩
  · refine ⟨_, _, rfl, ⟨h.1, hn, fun _ => ⟨g, 0, rfl, (Array.getElem?_eq_some_iff.1 hg).1, fun j u hj => ?_⟩⟩, (fun b off sp e => by injection e with e; injection e with e1 e2 e3; omega), hnc, by simpa [maxLen] using hcm⟩
    have := World.ownsRow.cells h (g := g) rfl j u hj
    simpa [Addr.add_lit] using this
theorem own_lt {w : World} {B k n : Nat} {t : TypeId} {v : Value} {xs : List Value} (h : w.ownsRow B t k v n xs) : ∀ g, v.ownBlock = some g → B ≤ g ∧ g < w.heap.size := World.ownsRow.lt h
theorem own_of_heap {w w' : World} {B k n : Nat} {t : TypeId} {v : Value} {xs : List Value} (h : w.ownsRow B t k v n xs) (hh : ∀ g, v.ownBlock = some g → w'.heap[g]? = w.heap[g]?) : w'.ownsRow B t k v n xs := by
  refine ⟨h.1, ?_⟩
  rcases h.2 with hn | ⟨g, cap, cur, rfl, hb, hgg, rest⟩
  · exact .inl hn
  · exact .inr ⟨g, cap, cur, rfl, hb, (hh g rfl).trans hgg, rest⟩
theorem own_up {w w' : World} {B k n : Nat} {t : TypeId} {v : Value} {xs : List Value} (h : w.ownsRow B t k v n xs) (hb : Below w.heap.size w w') : w'.ownsRow B t k v n xs := own_of_heap h fun g hg => hb.block g (own_lt h g hg).2
theorem own_alloc {w : World} {B k n : Nat} {t : TypeId} {v : Value} {xs : List Value} (h : w.ownsRow B t k v n xs) (o : Obj) : (w.alloc o).ownsRow B t k v n xs := own_up h ((Below.refl _ _).alloc (Nat.le_refl _) _)
theorem own_set {w : World} {B k n : Nat} {t : TypeId} {v : Value} {xs : List Value} (h : w.ownsRow B t k v n xs) {p : Addr} (hp : p.block < B) (u : Value) : (w.setCell p u).ownsRow B t k v n xs := own_of_heap h fun g hg => Below.heap_setCell _ _ _ _ (by have := (own_lt h g hg).1; omega)
theorem own_mono {w : World} {B B' k n : Nat} {t : TypeId} {v : Value} {xs : List Value} (h : w.ownsRow B t k v n xs) (hB : B' ≤ B) : w.ownsRow B' t k v n xs := by
  refine ⟨h.1, ?_⟩
  rcases h.2 with hn | ⟨g, cap, cur, rfl, hb, rest⟩
  · exact .inl hn
  · exact .inr ⟨g, cap, cur, rfl, by omega, rest⟩
theorem own_nil (w : World) (B k : Nat) (t : TypeId) : w.ownsRow B t k (.slice none 0 0) 0 [] := World.ownsRow_nil w B _ _

/-! ### elements told by a function -/
def flat {α : Type} (enc : α → List Value) (l : List α) : List Value := (l.map enc).flatten
section
variable {α : Type} {enc : α → List Value} {k : Nat} (hk : ∀ x, (enc x).length = k)
include hk
theorem flat_len : ∀ (l : List α), (flat enc l).length = l.length * k
  | [] => by simp [flat]
  | x :: l => by
    have := flat_len l
    unfold flat at this ⊢
    rw [List.map_cons, List.flatten_cons, List.length_append, this, hk, List.length_cons, Nat.succ_mul]; omega
theorem flat_take : ∀ (l : List α) (i : Nat), flat enc (l.take i) = (flat enc l).take (i * k)
  | [], i => by simp [flat]
  | x :: l, 0 => by simp [flat]
  | x :: l, i + 1 => by
    have := flat_take l i
    unfold flat at this ⊢
    rw [List.take_succ_cons, List.map_cons, List.flatten_cons, this, List.map_cons, List.flatten_cons, List.take_append, hk, List.take_of_length_le (l := enc x) (by rw [hk, Nat.succ_mul]; omega)]
    congr 2
    rw [Nat.succ_mul]; omega
theorem flat_drop : ∀ (l : List α) (i : Nat), flat enc (l.drop i) = (flat enc l).drop (i * k)
  | [], i => by simp [flat]
  | x :: l, 0 => by simp [flat]
  | x :: l, i + 1 => by
    have := flat_drop l i
    unfold flat at this ⊢
    rw [List.drop_succ_cons, this, List.map_cons, List.flatten_cons, List.drop_append, hk, List.drop_of_length_le (l := enc x) (by rw [hk, Nat.succ_mul]; omega), List.nil_append]
    congr 1
    rw [Nat.succ_mul]; omega
theorem flat_at [Inhabited α] : ∀ (l : List α) (j r : Nat), j < l.length → r < k → (flat enc l)[j * k + r]? = (enc (l.getD j default))[r]?
  | [], j, r, hj, _ => absurd hj (by simp)
  | x :: l, 0, r, _, hr => by
    unfold flat
    rw [List.map_cons, List.flatten_cons, Nat.zero_mul, Nat.zero_add, List.getElem?_append_left (by rw [hk]; exact hr)]
    rfl
  | x :: l, j + 1, r, hj, hr => by
    have := flat_at l j r (by simpa using hj) hr
    unfold flat at this ⊢
    rw [List.map_cons, List.flatten_cons, List.getElem?_append_right (by rw [hk, Nat.succ_mul]; omega), hk, show (j + 1) * k + r - k = j * k + r by rw [Nat.succ_mul]; omega, this]
    rfl
end
theorem flat_app {α : Type} (enc : α → List Value) (l m : List α) : flat enc (l ++ m) = flat enc l ++ flat enc m := by simp [flat]
theorem flat_one {α : Type} (enc : α → List Value) (x : α) : flat enc [x] = enc x := by simp [flat]
theorem flat_nil {α : Type} (enc : α → List Value) : flat enc [] = [] := rfl
theorem flat_oneCell {α : Type} {enc : α → List Value} (h : ∀ x, ∀ u ∈ enc x, u.oneCell' = true) (l : List α) : ∀ u ∈ flat enc l, u.oneCell' = true := fun u hu => by
  unfold flat at hu
  rw [List.mem_flatten] at hu
  obtain ⟨c, hc, hu⟩ := hu
  rw [List.mem_map] at hc
  obtain ⟨x, _, rfl⟩ := hc
  exact h x u hu
end
/-! part Gi -/
section
open Go.RowKit
end
/-! part Ya -/
section
open Go.RowKit
theorem signed_up (s : Bool) (m u k : Nat) : Ieee.signed s m (u + k) = Ieee.signed s m u * (2 ^ k : Nat) := by
  unfold Ieee.signed
  cases s
  · simp [Nat.shiftLeft_eq, Nat.pow_add, Nat.mul_assoc, Int.mul_assoc]
  · simp [Nat.shiftLeft_eq, Nat.pow_add, Nat.mul_assoc, Int.neg_mul, Int.mul_assoc]
theorem compare_mulI (a b : Int) (k : Nat) : compare (a * (2 ^ k : Nat)) (b * (2 ^ k : Nat)) = compare a b := by
  have hk : (0 : Int) < ((2 ^ k : Nat) : Int) := by have := Nat.two_pow_pos k; omega
  have h1 : a * ((2 ^ k : Nat) : Int) < b * ((2 ^ k : Nat) : Int) ↔ a < b := ⟨fun h => Int.lt_of_mul_lt_mul_right h (Int.le_of_lt hk), fun h => Int.mul_lt_mul_of_pos_right h hk⟩
  have h2 : a * ((2 ^ k : Nat) : Int) = b * ((2 ^ k : Nat) : Int) ↔ a = b := ⟨fun h => Int.eq_of_mul_eq_mul_right (by omega) h, fun h => by rw [h]⟩
  simp only [compare, compareOfLessAndEq, h1, h2]
/-- Two numbers stand as they do at any common scale. -/
theorem order_at (s t : Bool) (m n : Nat) (i j C : Int) (hi : 0 ≤ i + C) (hj : 0 ≤ j + C) :
    Ieee.Datum.order (.number s m i) (.number t n j) = some (compare (Ieee.signed s m (i + C).toNat) (Ieee.signed t n (j + C).toNat)) := by
  unfold Ieee.Datum.order
  obtain ⟨k, hk⟩ : ∃ k : Nat, (k : Int) = C + min i j := ⟨(C + min i j).toNat, by omega⟩
  have e1 : (i + C).toNat = (i - min i j).toNat + k := by omega
  have e2 : (j + C).toNat = (j - min i j).toNat + k := by omega
  rw [e1, e2, signed_up, signed_up, compare_mulI]
theorem read_fl (n : Int) (h : 0 ≤ n) (h' : n < 9007199254740992) : ∃ e : Nat, FloatKind.f64.format.read (fl n) = .number false (n.toNat * 2 ^ e) (-(e : Int)) := by
  obtain ⟨k, rfl⟩ := Int.eq_ofNat_of_zero_le h
  obtain ⟨e, he⟩ := decode_fl k (by omega)
  have he2 : FloatKind.f64.format.read (fl (k : Int)) = .number false (k * 2 ^ e) (-(e : Int)) := he
  exact ⟨e, by rw [Int.toNat_natCast]; exact he2⟩
theorem signed_fl (n : Nat) (e C : Nat) (h : e ≤ C) : Ieee.signed false (n * 2 ^ e) (-(e : Int) + (C : Int)).toNat = (n : Int) * (2 ^ C : Nat) := by
  unfold Ieee.signed
  have e1 : (-(e : Int) + (C : Int)).toNat = C - e := by omega
  have e2 : e + (C - e) = C := by omega
  rw [e1]
  simp only [Bool.false_eq_true, if_false, Nat.shiftLeft_eq, Nat.mul_assoc, ← Nat.pow_add, e2, Int.natCast_mul]
/-- The float x is the whole number n: it stands to each whole number as n does. -/
def Dn (x : Nat) (n : Int) : Prop := FloatKind.f64.format.order x x = some Ordering.eq ∧ ∀ m : Int, 0 ≤ m → m < 9007199254740992 → FloatKind.f64.format.order (fl m) x = some (compare m n) ∧ FloatKind.f64.format.order x (fl m) = some (compare n m)
theorem Dn.fl {n : Int} (h : 0 ≤ n) (h' : n < 9007199254740992) : Dn (fl n) n :=
  ⟨by rw [order_fl n n h h h' h']; simp [compare, compareOfLessAndEq], fun m h1 h2 => ⟨order_fl m n h1 h h2 h', order_fl n m h h1 h' h2⟩⟩
theorem order_num {x : Nat} {n : Int} (h : 0 ≤ n) (h' : n < 9007199254740992) (o : FloatKind.f64.format.order (fl n) x = some Ordering.eq) : Dn x n := by
  obtain ⟨e, he⟩ := read_fl n h h'
  unfold Ieee.Format.order at o
  rw [he] at o
  rcases hx : FloatKind.f64.format.read x with ⟨s, mm, i⟩ | ⟨s⟩ | ⟨s, t⟩
  · rw [hx] at o
    have key : ∀ C : Nat, e ≤ C → 0 ≤ i + (C : Int) → n * ((2 ^ C : Nat) : Int) = Ieee.signed s mm (i + (C : Int)).toNat := fun C hC hi => by
      rw [order_at false s _ mm _ i (C : Int) (by omega) hi, signed_fl _ e C hC] at o
      have hn : ((n.toNat : Nat) : Int) = n := by omega
      rw [hn] at o
      injection o with o
      rw [compare, instOrdInt] at o
      simp only [compareOfLessAndEq] at o
      split at o
      · cases o
      · split at o
        · assumption
        · cases o
    have cmpI : ∀ (a b : Int) (C : Nat), compare (a * ((2 ^ C : Nat) : Int)) (b * ((2 ^ C : Nat) : Int)) = compare a b := compare_mulI
    refine ⟨?_, fun m hm hm' => ?_⟩
    · unfold Ieee.Format.order
      rw [hx, order_at s s mm mm i i ((-i).toNat : Nat) (by omega) (by omega)]
      simp [compare, compareOfLessAndEq]
    · obtain ⟨d, hd⟩ := read_fl m hm hm'
      obtain ⟨C, hC⟩ : ∃ C : Nat, C = e + d + (-i).toNat := ⟨_, rfl⟩
      have hk := key C (by omega) (by omega)
      have hmn : ((m.toNat : Nat) : Int) = m := by omega
      unfold Ieee.Format.order
      rw [hd, hx]
      constructor
      · rw [order_at false s _ mm _ i (C : Int) (by omega) (by omega), signed_fl _ d C (by omega), ← hk, hmn, cmpI]
      · rw [order_at s false mm _ i _ (C : Int) (by omega) (by omega), signed_fl _ d C (by omega), ← hk, hmn, cmpI]
  · rw [hx] at o
    simp only [Ieee.Datum.order] at o
    cases s <;> cases o
  · rw [hx] at o
    simp only [Ieee.Datum.order] at o
    cases o
def okB (x : Nat) (lo hi : Int) : Bool := (FloatKind.f64.format.order x (fl lo) == some Ordering.gt || FloatKind.f64.format.order x (fl lo) == some Ordering.eq) && (FloatKind.f64.format.order x (fl hi) == some Ordering.lt || FloatKind.f64.format.order x (fl hi) == some Ordering.eq)
def whN (x : Nat) : Int := ((FloatKind.f64.decode x).toInt .zero).getD 0
def whB (x : Nat) (lo hi : Int) : Bool := okB x lo hi && (FloatKind.f64.format.order (fl (whN x)) x == some Ordering.eq)
theorem cut_zero (s : Bool) (n drop : Nat) : Ieee.Toward.zero.cut s n drop = n / 2 ^ drop := by
  unfold Ieee.Toward.cut
  simp only [Nat.shiftLeft_eq, Nat.one_mul, Bool.toNat_false, Nat.add_zero]
  rcases Nat.le_total drop (n.log2 + 2) with h | h
  · rw [Nat.min_eq_left h]
  · rw [Nat.min_eq_right h]
    have h1 : n < 2 ^ (n.log2 + 2) := Nat.lt_of_lt_of_le Nat.lt_log2_self (Nat.pow_le_pow_right (by omega) (by omega))
    rw [Nat.div_eq_of_lt h1, Nat.div_eq_of_lt (Nat.lt_of_lt_of_le h1 (Nat.pow_le_pow_right (by omega) h))]
theorem ok_int {x : Nat} {lo hi : Int} (h : okB x lo hi = true) (hlo : 0 ≤ lo) (hlh : lo ≤ hi) (hhi : hi ≤ 1099511627776) : (FloatKind.f64.decode x).toInt .zero = some (whN x) ∧ 0 ≤ whN x ∧ whN x ≤ 1099511627776 := by
  unfold okB at h
  simp only [Bool.and_eq_true, Bool.or_eq_true, beq_iff_eq] at h
  obtain ⟨h1, h2⟩ := h
  obtain ⟨e, he⟩ := read_fl lo hlo (by omega)
  obtain ⟨d, hd⟩ := read_fl hi (by omega) (by omega)
  unfold Ieee.Format.order at h1 h2
  rw [he] at h1
  rw [hd] at h2
  have hdec : FloatKind.f64.decode x = FloatKind.f64.format.read x := rfl
  unfold whN
  rw [hdec]
  rcases hx : FloatKind.f64.format.read x with ⟨s, mm, i⟩ | ⟨s⟩ | ⟨s, t⟩
  · rw [hx] at h1 h2
    obtain ⟨C, hC⟩ : ∃ C : Nat, C = e + d + (-i).toNat := ⟨_, rfl⟩
    rw [order_at s false mm _ i _ (C : Int) (by omega) (by omega), signed_fl _ e C (by omega)] at h1
    rw [order_at s false mm _ i _ (C : Int) (by omega) (by omega), signed_fl _ d C (by omega)] at h2
    have hl : ((lo.toNat : Nat) : Int) = lo := by omega
    have hh : ((hi.toNat : Nat) : Int) = hi := by omega
    rw [hl] at h1
    rw [hh] at h2
    have hp : (0 : Int) < ((2 ^ C : Nat) : Int) := by have := Nat.two_pow_pos C; omega
    have g1 : lo * ((2 ^ C : Nat) : Int) ≤ Ieee.signed s mm (i + (C : Int)).toNat := by
      simp only [compare, compareOfLessAndEq, Option.some.injEq] at h1
      split at h1
      · rcases h1 with h | h <;> cases h
      · omega
    have g2 : Ieee.signed s mm (i + (C : Int)).toNat ≤ hi * ((2 ^ C : Nat) : Int) := by
      simp only [compare, compareOfLessAndEq, Option.some.injEq] at h2
      split at h2
      · omega
      · split at h2
        · omega
        · rcases h2 with h | h <;> cases h
    have g0 : 0 ≤ lo * ((2 ^ C : Nat) : Int) := Int.mul_nonneg hlo (Int.le_of_lt hp)
    have hcut : ∀ q : Nat, mm <<< i.toNat / 2 ^ (-i).toNat = q → ¬ (s = true ∧ mm ≠ 0) → (q : Int) ≤ hi := fun q hq hs => by
      have hb : ((mm * 2 ^ (i + (C : Int)).toNat : Nat) : Int) ≤ hi * ((2 ^ C : Nat) : Int) := by
        unfold Ieee.signed at g2
        cases s
        · simpa [Nat.shiftLeft_eq] using g2
        · have : mm = 0 := by
            rcases Nat.eq_zero_or_pos mm with h | h
            · exact h
            · exact absurd ⟨rfl, by omega⟩ hs
          subst this
          simpa using Int.mul_nonneg (by omega) (Int.le_of_lt hp)
      obtain ⟨H, rfl⟩ := Int.eq_ofNat_of_zero_le (show 0 ≤ hi by omega)
      have hb2 : mm * 2 ^ (i + (C : Int)).toNat ≤ H * 2 ^ C := by exact_mod_cast hb
      have : q ≤ H := by
        rw [← hq, Nat.shiftLeft_eq]
        rcases Int.le_total 0 i with hi0 | hi0
        · have e1 : (-i).toNat = 0 := by omega
          have e2 : (i + (C : Int)).toNat = i.toNat + C := by omega
          rw [e1, Nat.pow_zero, Nat.div_one]
          rw [e2, Nat.pow_add, ← Nat.mul_assoc] at hb2
          exact Nat.le_of_mul_le_mul_right hb2 (Nat.two_pow_pos C)
        · have e1 : i.toNat = 0 := by omega
          have e2 : (i + (C : Int)).toNat + (-i).toNat = C := by omega
          rw [e1, Nat.pow_zero, Nat.mul_one]
          refine Nat.div_le_of_le_mul ?_
          have e3 : 2 ^ C = 2 ^ (-i).toNat * 2 ^ (i + (C : Int)).toNat := by rw [← Nat.pow_add]; congr 1; omega
          rw [e3, ← Nat.mul_assoc] at hb2
          have := Nat.le_of_mul_le_mul_right hb2 (Nat.two_pow_pos _)
          rw [Nat.mul_comm]; exact this
      omega
    have hneg : ¬ (s = true ∧ mm ≠ 0) := by
      rintro ⟨rfl, hm⟩
      unfold Ieee.signed at g1
      simp only [if_true, Nat.shiftLeft_eq] at g1
      have : 0 < mm * 2 ^ (i + (C : Int)).toNat := Nat.mul_pos (by omega) (Nat.two_pow_pos _)
      omega
    unfold Ieee.Datum.toInt Ieee.Datum.integral
    have hc : Ieee.Toward.zero.cut s (mm <<< i.toNat) (-i).toNat = mm <<< i.toNat / 2 ^ (-i).toNat := cut_zero _ _ _
    simp only [hc]
    obtain ⟨q, hq⟩ : ∃ q, mm <<< i.toNat / 2 ^ (-i).toNat = q := ⟨_, rfl⟩
    have hqh := hcut q hq hneg
    rw [hq]
    simp only [Option.getD_some]
    cases s
    · simp [Ieee.signed]; omega
    · have : mm = 0 := by
        rcases Nat.eq_zero_or_pos mm with h | h
        · exact h
        · exact absurd ⟨rfl, by omega⟩ hneg
      subst this
      have : q = 0 := by rw [← hq]; simp
      subst this
      simp [Ieee.signed]
  · rw [hx] at h1 h2
    simp only [Ieee.Datum.order] at h1 h2
    cases s <;> simp at h1 h2
  · rw [hx] at h1
    simp only [Ieee.Datum.order] at h1
    simp at h1
end
/-! part Yb -/
section
open Go.RowKit
def paOk (x y : Nat) : Bool := whB x 0 1099511627776 && whB y 1 16
def paR (x y : Nat) : Int := if paOk x y = true then whN x else 0
def paA (x y : Nat) : Int := if paOk x y = true then whN y else 0
def paE (x y : Nat) : Int := if paOk x y = true then 0 else 1
theorem pa_ok {x y : Nat} (h : paOk x y = true) : 0 ≤ whN x ∧ whN x ≤ 1099511627776 ∧ Dn x (whN x) ∧ 1 ≤ whN y ∧ whN y ≤ 16 ∧ Dn y (whN y) := by
  unfold paOk at h
  rw [Bool.and_eq_true] at h
  have hh : ∀ (z : Nat) (lo hi : Int), whB z lo hi = true → 0 ≤ lo → lo ≤ hi → hi ≤ 1099511627776 → lo ≤ whN z ∧ whN z ≤ hi ∧ Dn z (whN z) := fun z lo hi hz hlo hlh hhi => by
    unfold whB at hz
    rw [Bool.and_eq_true, beq_iff_eq] at hz
    obtain ⟨_, g1, g2⟩ := ok_int hz.1 hlo hlh hhi
    have hd := order_num (by omega) (by omega) hz.2
    have h1 := (hd.2 lo hlo (by omega)).2
    have h2 := (hd.2 hi (by omega) (by omega)).2
    have hk := hz.1
    unfold okB at hk
    rw [h1, h2] at hk
    simp only [compare, compareOfLessAndEq, Bool.and_eq_true, Bool.or_eq_true, beq_iff_eq, Option.some.injEq] at hk
    refine ⟨?_, ?_, hd⟩
    · rcases Int.lt_or_le (whN z) lo with hc | hc
      · rw [if_pos hc] at hk
        rcases hk.1 with h | h <;> cases h
      · exact hc
    · rcases Int.lt_or_le hi (whN z) with hc | hc
      · rw [if_neg (show ¬ whN z < hi by omega), if_neg (show ¬ whN z = hi by omega)] at hk
        rcases hk.2 with h | h <;> cases h
      · exact hc
  obtain ⟨a1, a2, a3⟩ := hh x 0 1099511627776 h.1 (by omega) (by omega) (by omega)
  obtain ⟨b1, b2, b3⟩ := hh y 1 16 h.2 (by omega) (by omega) (by omega)
  exact ⟨a1, a2, a3, b1, b2, b3⟩
theorem cmpLt {a b : Int} : (compare a b = Ordering.lt) = (a < b) := by
  have := cmp_lt a b
  rw [Bool.eq_iff_iff] at this
  simpa using this
theorem cmpGt {a b : Int} : (compare a b = Ordering.gt) = (b < a) := by
  have := cmp_gt a b
  rw [Bool.eq_iff_iff] at this
  simpa using this
def Sm (n : Int) : Prop := 0 ≤ n ∧ n < 9007199254740992
def befS (r a s b : Int) : Bool := decide (r < s ∨ r = s ∧ a < b)
theorem befS_iff {r a s b : Int} : befS r a s b = true ↔ (r < s ∨ r = s ∧ a < b) := by simp [befS]
def isP (r a : Int) : Bool := decide (0 ≤ r ∧ r ≤ 1099511627776 ∧ 1 ≤ a ∧ a ≤ 16)
theorem isP_iff {r a : Int} : isP r a = true ↔ (0 ≤ r ∧ r ≤ 1099511627776 ∧ 1 ≤ a ∧ a ≤ 16) := by simp [isP]
def cmp3 (a b : Int) : Int := if a < b then -1 else if b < a then 1 else 0
def or2 (x y : Int) : Int := if x = 0 then y else x
def cmpP (ro au r a : Int) : Int := or2 (cmp3 ro r) (cmp3 au a)
theorem cmpP_lt {ro au r a : Int} : cmpP ro au r a < 0 ↔ befS ro au r a = true := by
  rw [befS_iff]; unfold cmpP or2 cmp3; repeat' split
  all_goals omega
theorem cmpP_eq {ro au r a : Int} : cmpP ro au r a = 0 ↔ ro = r ∧ au = a := by
  unfold cmpP or2 cmp3; repeat' split
  all_goals omega
end
/-! part Yc -/
section
open Go.RowKit
open Classical in
noncomputable def dec (p : Prop) : Bool := decide p
theorem dec_iff {p : Prop} : dec p = true ↔ p := by simp [dec]
theorem dec_true {p : Prop} (h : p) : true = dec p := (dec_iff.2 h).symm
theorem dec_false {p : Prop} (h : ¬ p) : false = dec p := by simp [dec, h]
structure VoteD where
  ro : Int
  au : Int
  di : Int
deriving Inhabited
def encV (v : VoteD) : List Value := [.int .i64 v.ro, .int .i64 v.au, .int .i64 v.di]
theorem encV_len (v : VoteD) : (encV v).length = 3 := rfl
theorem encV_one (v : VoteD) : ∀ u ∈ encV v, u.oneCell' = true := by
  intro u hu
  simp only [encV, List.mem_cons, List.not_mem_nil, or_false] at hu
  rcases hu with rfl | rfl | rfl <;> rfl
def vth (l : List VoteD) (i : Nat) : VoteD := l.getD i default
def VotesR (w : World) (A : Option Addr) (n : Nat) (l : List VoteD) : Prop := l.length = n ∧ RowV w A n 3 (flat encV l)
theorem VotesR.up {w w' : World} {A n l} (h : VotesR w A n l) (hb : Below w.heap.size w w') : VotesR w' A n l := ⟨h.1, h.2.up hb⟩
def VoteAt (w : World) (b off : Nat) (v : VoteD) : Prop := w.cell? ⟨b, off, none⟩ = some (.int .i64 v.ro) ∧ w.cell? ⟨b, off + 1, none⟩ = some (.int .i64 v.au) ∧ w.cell? ⟨b, off + 2, none⟩ = some (.int .i64 v.di)
theorem VotesR.at {w : World} {A n l} (h : VotesR w A n l) (hn : 0 < n) : ∃ b off, A = some ⟨b, off, none⟩ ∧ b < w.heap.size ∧ ∀ j, j < n → VoteAt w b (off + j * 3) (vth l j) := by
  obtain ⟨b, off, e, hb, hc⟩ := h.2.2.2 hn
  refine ⟨b, off, e, hb, fun j hj => ?_⟩
  have hat : ∀ r u, r < 3 → (encV (vth l j))[r]? = some u → w.cell? ⟨b, off + j * 3 + r, none⟩ = some u := fun r u hr hu => by
    rw [Nat.add_assoc]
    exact hc _ u (by rw [flat_at encV_len l j r (by rw [h.1]; exact hj) hr]; exact hu)
  exact ⟨hat 0 _ (by omega) rfl, hat 1 _ (by omega) rfl, hat 2 _ (by omega) rfl⟩
def voteS (v : VoteD) : Bool := decide (1 ≤ v.ro ∧ v.ro ≤ 1099511627776 ∧ 1 ≤ v.au ∧ v.au ≤ 16 ∧ 1 ≤ v.di ∧ v.di ≤ 65536)
theorem voteS_iff {v : VoteD} : voteS v = true ↔ (1 ≤ v.ro ∧ v.ro ≤ 1099511627776 ∧ 1 ≤ v.au ∧ v.au ≤ 16 ∧ 1 ≤ v.di ∧ v.di ≤ 65536) := by simp [voteS]
def digS (d : Int) : Bool := decide (1 ≤ d ∧ d ≤ 65536)
theorem digS_iff {d : Int} : digS d = true ↔ (1 ≤ d ∧ d ≤ 65536) := by simp [digS]
set_option maxRecDepth 100000 in
set_option maxHeartbeats 1000000 in
theorem committee_Digest (d : Int) (w : World) : Calls Tryz.prog 110 #[.int .i64 d] w fun e w' => e = .returned (.bool (digS d)) ∧ w = w' := by
  go_enter Tryz.func110, Tryz.ntmps110
  go_wp2
  all_goals (go_ret; refine ⟨ret_bool ?_, rfl⟩; rw [Bool.eq_iff_iff, digS_iff]; simp; try omega)
set_option maxRecDepth 100000 in
set_option maxHeartbeats 1000000 in
theorem ref0_Digest (d : Int) (w : World) : Calls Tryz.prog 36 #[.int .i64 d] w fun e w' => e = .returned (.bool (digS d)) ∧ w = w' := by
  go_enter Tryz.func36, Tryz.ntmps36
  go_wp2
  all_goals (go_ret; refine ⟨ret_bool ?_, rfl⟩; rw [Bool.eq_iff_iff, digS_iff]; simp; try omega)
def befV (a b : VoteD) : Bool := befS a.ro a.au b.ro b.au
def GoodV (l : List VoteD) (k : Nat) : Prop := ∀ j, j < k → voteS (vth l j) = true ∧ (0 < j → befV (vth l (j - 1)) (vth l j) = true)
def MayV (l : List VoteD) : Prop := l.length ≤ 65536 ∧ GoodV l l.length
noncomputable def mayV (l : List VoteD) : Bool := dec (MayV l)
theorem mayV_iff {l : List VoteD} : mayV l = true ↔ MayV l := dec_iff
theorem GoodV.succ {l : List VoteD} {k : Nat} (h : GoodV l k) (h1 : voteS (vth l k) = true) (h2 : 0 < k → befV (vth l (k - 1)) (vth l k) = true) : GoodV l (k + 1) := fun j hj => by
  rcases Nat.lt_or_ge j k with h3 | h3
  · exact h j h3
  · obtain rfl : j = k := by omega
    exact ⟨h1, h2⟩
def VMJ (A : Option Addr) (n c : Nat) (l : List VoteD) (w : World) (a' : Act) (w' : World) : Prop :=
  ∃ (k : Nat) (u1 u2 u4 u5 u6 u7 u8 u9 u10 u11 u12 u13 u14 u15 u16 u17 u18 u19 u20 u21 u22 u23 u24 u25 u26 u27 u28 u29 u30 u31 u32 u33 u34 u35 : Value), a' = { tmps := #[.slice A n c, u1, u2, .int .i64 (k : Int), u4, u5, u6, u7, u8, u9, u10, u11, u12, u13, u14, u15, u16, u17, u18, u19, u20, u21, u22, u23, u24, u25, u26, u27, u28, u29, u30, u31, u32, u33, u34, u35], defers := [] } ∧ n ≤ 65536 ∧ k ≤ n ∧ GoodV l k ∧ Below w.heap.size w w'
theorem VMJ.mk {A : Option Addr} {n c : Nat} {l : List VoteD} {w : World} {ix : Int} {k : Nat} {u1 u2 u4 u5 u6 u7 u8 u9 u10 u11 u12 u13 u14 u15 u16 u17 u18 u19 u20 u21 u22 u23 u24 u25 u26 u27 u28 u29 u30 u31 u32 u33 u34 u35 : Value} {w' : World} (hn : n ≤ 65536) (hk : k ≤ n) (h : GoodV l k) (hb : Below w.heap.size w w') (hix : ix = (k : Int)) :
    VMJ A n c l w { tmps := #[.slice A n c, u1, u2, .int .i64 ix, u4, u5, u6, u7, u8, u9, u10, u11, u12, u13, u14, u15, u16, u17, u18, u19, u20, u21, u22, u23, u24, u25, u26, u27, u28, u29, u30, u31, u32, u33, u34, u35], defers := [] } w' := hix ▸ ⟨k, _, _, _, _, _, _, _, _, _, _, _, _, _, _, _, _, _, _, _, _, _, _, _, _, _, _, _, _, _, _, _, _, _, _, rfl, hn, hk, h, hb⟩
def VME (l : List VoteD) (w : World) (a' : Act) (w' : World) : Prop :=
  ∃ (u0 u1 u2 u3 u4 u5 u6 u7 u8 u9 u10 u11 u12 u13 u14 u15 u16 u17 u18 u19 u20 u21 u22 u23 u24 u25 u26 u27 u28 u29 u30 u31 u32 u33 u34 u35 : Value), a' = { tmps := #[u0, u1, u2, u3, u4, u5, u6, u7, u8, u9, u10, u11, u12, u13, u14, u15, u16, u17, u18, u19, u20, u21, u22, u23, u24, u25, u26, u27, u28, u29, u30, u31, u32, u33, u34, u35], defers := [] } ∧ mayV l = false ∧ Below w.heap.size w w'
end
/-! part Yd -/
section
open Go.RowKit
def hasF (r a : Int) : List VoteD → Int
  | [] => 0
  | v :: l => if v.ro = r ∧ v.au = a then v.di else hasF r a l
def hasV (l : List VoteD) (r a : Int) : Int := hasF r a l
theorem hasF_step (r a : Int) (l : List VoteD) (k : Nat) (h : k < l.length) : hasF r a (l.drop k) = if (vth l k).ro = r ∧ (vth l k).au = a then (vth l k).di else hasF r a (l.drop (k + 1)) := by
  rw [List.drop_eq_getElem_cons h]; simp [hasF, vth, h]
theorem hasF_cases (r a : Int) : ∀ (l : List VoteD), (hasF r a l = 0 ∧ ∀ j, j < l.length → ¬ ((vth l j).ro = r ∧ (vth l j).au = a)) ∨ ∃ i, i < l.length ∧ hasF r a l = (vth l i).di ∧ (vth l i).ro = r ∧ (vth l i).au = a
  | [] => .inl ⟨rfl, fun j hj => absurd hj (by simp)⟩
  | v :: l => by
    by_cases hv : v.ro = r ∧ v.au = a
    · exact .inr ⟨0, by simp, by simp [hasF, hv, vth], hv.1, hv.2⟩
    · rcases hasF_cases r a l with ⟨h1, h2⟩ | ⟨i, h1, h2, h3, h4⟩
      · refine .inl ⟨by rw [hasF, if_neg hv, h1], fun j hj => ?_⟩
        cases j with
        | zero => exact hv
        | succ j => exact h2 j (by simpa using hj)
      · exact .inr ⟨i + 1, by simpa using h1, by rw [hasF, if_neg hv, h2]; rfl, h3, h4⟩
def PlV (l : List VoteD) : Prop := (∀ i j, i < j → j < l.length → befV (vth l i) (vth l j) = true) ∧ ∀ k, k < l.length → Sm (vth l k).ro ∧ Sm (vth l k).au
def CutV (l : List VoteD) (n : Nat) (r a : Int) (lo hi : Nat) : Prop := (∀ t, t < lo → befS (vth l t).ro (vth l t).au r a = true) ∧ ∀ t, hi ≤ t → t < n → befS (vth l t).ro (vth l t).au r a = false
noncomputable def hereV (l : List VoteD) (r a : Int) (lo : Nat) : Bool := dec (lo < l.length ∧ (vth l lo).ro = r ∧ (vth l lo).au = a)
theorem befS_tr {a b c d e f : Int} (h1 : befS a b c d = true) (h2 : befS c d e f = true) : befS a b e f = true := by
  rw [befS_iff] at *; omega
theorem befS_no {a b c d e f : Int} (h1 : befS a b c d = true) (h2 : befS a b e f = false) : befS c d e f = false := by
  cases h : befS c d e f
  · rfl
  · rw [befS_tr h1 h] at h2; cases h2
theorem MayV.pl {l : List VoteD} (h : MayV l) : PlV l := by
  refine ⟨fun i j hij hj => ?_, fun k hk => ?_⟩
  · induction j with
    | zero => omega
    | succ j ih =>
      have h1 := (h.2 (j + 1) hj).2 (by omega)
      rw [Nat.add_sub_cancel] at h1
      rcases Nat.lt_or_ge i j with h2 | h2
      · exact befS_tr (ih h2 (by omega)) h1
      · obtain rfl : i = j := by omega
        exact h1
  · have := voteS_iff.1 (h.2 k hk).1
    exact ⟨⟨by omega, by omega⟩, ⟨by omega, by omega⟩⟩
theorem cut_has {l : List VoteD} {r a : Int} {lo : Nat} (hP : PlV l) (h : CutV l l.length r a lo lo) : (hereV l r a lo = true ∧ lo < l.length ∧ hasV l r a = (vth l lo).di) ∨ (hereV l r a lo = false ∧ hasV l r a = 0 ∧ ∀ j, j < l.length → ¬ ((vth l j).ro = r ∧ (vth l j).au = a)) := by
  rcases hasF_cases r a l with ⟨h1, h2⟩ | ⟨i, h1, h2, h3, h4⟩
  · right
    refine ⟨?_, h1, h2⟩
    cases hh : hereV l r a lo
    · rfl
    · exact absurd (dec_iff.1 hh).2 (h2 lo (dec_iff.1 hh).1)
  · left
    have hi : i = lo := by
      rcases Nat.lt_trichotomy i lo with g | g | g
      · have := befS_iff.1 (h.1 i g); omega
      · exact g
      · have h5 := h.2 lo (Nat.le_refl _) (by omega)
        have h6 := hP.1 lo i g h1
        unfold befV at h6
        rw [h3, h4] at h6
        rw [h6] at h5; cases h5
    subst hi
    exact ⟨dec_iff.2 ⟨h1, h3, h4⟩, h1, h2⟩
noncomputable def hsOk (l : List VoteD) (x y : Nat) : Bool := paOk x y && mayV l
noncomputable def hsB (l : List VoteD) (x y : Nat) : Int := if hsOk l x y = true then hasV l (whN x) (whN y) else 0
noncomputable def hsE (l : List VoteD) (x y : Nat) : Int := if hsOk l x y = true then (if hasV l (whN x) (whN y) = 0 then 3 else 0) else 1
end
/-! part Ye -/
section
open Go.RowKit
def posV : List VoteD → VoteD → Nat
  | [], _ => 0
  | x :: l, v => if befV x v = true then posV l v + 1 else 0
def insV (l : List VoteD) (v : VoteD) : List VoteD := l.take (posV l v) ++ [v] ++ l.drop (posV l v)
theorem posV_le (v : VoteD) : ∀ l : List VoteD, posV l v ≤ l.length
  | [] => Nat.le_refl _
  | x :: l => by unfold posV; split; have := posV_le v l; simp; omega; simp
theorem insV_len (l : List VoteD) (v : VoteD) : (insV l v).length = l.length + 1 := by
  have := posV_le v l
  unfold insV; simp; omega
theorem posV_eq (v : VoteD) : ∀ (l : List VoteD) (lo : Nat), lo ≤ l.length → (∀ t, t < lo → befV (vth l t) v = true) → (lo < l.length → befV (vth l lo) v = false) → posV l v = lo
  | [], lo, h, _, _ => by have h2 : lo = 0 := by simpa using h
                          subst h2; rfl
  | x :: l, 0, _, _, h => by
    have := h (by simp)
    unfold posV
    rw [if_neg (by show ¬ befV x v = true; rw [show befV x v = false from this]; simp)]
  | x :: l, lo + 1, h, h1, h2 => by
    unfold posV
    rw [if_pos (show befV x v = true from h1 0 (by omega)), posV_eq v l lo (by simpa using h) (fun t ht => h1 (t + 1) (by omega)) (fun ht => h2 (by simpa using ht))]
theorem CutV.pos {l : List VoteD} {v : VoteD} {n lo : Nat} (hN : l.length = n) (hlo : lo ≤ n) (h : CutV l n v.ro v.au lo lo) : posV l v = lo :=
  posV_eq v l lo (by omega) (fun t ht => h.1 t ht) (fun ht => h.2 lo (Nat.le_refl _) (by omega))
theorem flat_ins {l : List VoteD} {v : VoteD} {lo : Nat} (h : posV l v = lo) : (flat encV l).take (lo * 3) ++ encV v ++ (flat encV l).drop (lo * 3) = flat encV (insV l v) := by
  unfold insV
  rw [h, flat_app, flat_app, flat_one, flat_take encV_len, flat_drop encV_len]
theorem has_zero {l : List VoteD} {r a : Int} {lo : Nat} (hM : MayV l) (h : CutV l l.length r a lo lo) (h0 : hasV l r a = 0) : hereV l r a lo = false := by
  rcases cut_has hM.pl h with ⟨_, h2, h3⟩ | ⟨h1, _⟩
  · have := voteS_iff.1 (hM.2 lo h2).1
    omega
  · exact h1
theorem has_some {l : List VoteD} {r a : Int} {lo : Nat} (hM : MayV l) (h : CutV l l.length r a lo lo) (h0 : ¬ hasV l r a = 0) : hereV l r a lo = true ∧ lo < l.length ∧ hasV l r a = (vth l lo).di := by
  rcases cut_has hM.pl h with h1 | ⟨_, h2, _⟩
  · exact h1
  · exact absurd h2 h0
noncomputable def giE (l : List VoteD) (v : VoteD) : Int := if mayV l = true ∧ voteS v = true then (if hasV l v.ro v.au = 0 then (if l.length < 65536 then 0 else 8) else (if hasV l v.ro v.au = v.di then 4 else 5)) else 1
noncomputable def giB (l : List VoteD) (v : VoteD) : List VoteD := if giE l v = 0 then insV l v else []
end
/-! part Yv -/
section
open Go.RowKit Go.ChangeShapes Go.WideShapes Go.ChangeAt
theorem list2 {α : Type} {l : List α} (h : l.length = 2) : ∃ a0 a1, l = [a0, a1] := by
  match l, h with
  | [a0, a1], _ => exact ⟨a0, a1, rfl⟩
theorem list3 {α : Type} {l : List α} (h : l.length = 3) : ∃ a0 a1 a2, l = [a0, a1, a2] := by
  match l, h with
  | [a0, a1, a2], _ => exact ⟨a0, a1, a2, rfl⟩
theorem list4 {α : Type} {l : List α} (h : l.length = 4) : ∃ a0 a1 a2 a3, l = [a0, a1, a2, a3] := by
  match l, h with
  | [a0, a1, a2, a3], _ => exact ⟨a0, a1, a2, a3, rfl⟩
theorem list5 {α : Type} {l : List α} (h : l.length = 5) : ∃ a0 a1 a2 a3 a4, l = [a0, a1, a2, a3, a4] := by
  match l, h with
  | [a0, a1, a2, a3, a4], _ => exact ⟨a0, a1, a2, a3, a4, rfl⟩
section
variable {H : Type} {enc : TypeId × Value → H} {w : World} {base : Nat} {spare : Nat → Bool} {held : Bool}
theorem open_IntsR {fuel : Nat} {cs : List Value} {x : DataW H × List MemPlace} (h : DataW.trod enc Tryz.prog w base spare held fuel 25 cs = some x) : ∃ A n c l, cs = [.slice A n c] ∧ IntsR w A n l := by
  rcases open_ints Tryz.underlying25 Tryz.underlying3 (by kernel_rfl) h with ⟨hcs, _⟩ | ⟨a, n, c, zs, hcs, _, hl, hm, hz, _, hcell, hwz⟩
  · exact ⟨none, 0, 0, [], hcs, ⟨rfl, by omega, fun h => absurd h (by omega)⟩⟩
  · have hlen : n ≤ zs.length := by rw [hz]; split <;> omega
    refine ⟨some a, n, c, zs.take n, hcs, by simp; omega, by have : c ≤ 9223372036854775807 := hm; omega, fun hn => ?_⟩
    obtain ⟨b, off, spot⟩ := a
    have hc0 := hcell 0 (by omega)
    have hspot : spot = none := by simpa [Addr.add] using World.cell?_spot hc0
    subst hspot
    refine ⟨b, off, rfl, by simpa [Addr.add] using World.block_lt_of_cell? w _ hc0, fun j hj => ?_⟩
    have := hcell j (by omega)
    by_cases h0 : j = 0
    · subst h0
      simpa [Addr.add, nth, hj, show 0 < zs.length by omega] using this
    · simpa [Addr.add, nth, h0, hj, show j < zs.length by omega] using this
theorem open_Int {fuel : Nat} {cs : List Value} {x : DataW H × List MemPlace} (h : DataW.trod enc Tryz.prog w base spare held fuel 3 cs = some x) : ∃ z, cs = [.int .i64 z] := by
  obtain ⟨z, hz, _⟩ := DataW.trod_int Tryz.underlying3 h
  exact ⟨z, hz⟩
theorem trod_float {P : Program} {k : FloatKind} {t : TypeId} {fuel : Nat} {cs : List Value} {x : DataW H × List MemPlace} (ht : P.underlying t = some (.float k)) (h : DataW.trod enc P w base spare held fuel t cs = some x) : ∃ n, cs = [.float k n] := by
  cases fuel with
  | zero => simp [DataW.trod] at h
  | succ n =>
    unfold DataW.trod at h
    rw [ht] at h
    split at h <;> simp_all
set_option maxRecDepth 20000 in
/-- A slice of flat elements, opened. -/
theorem open_flat {α : Type} [Inhabited α] {e : α → List Value} {k : Nat} {t te : TypeId} (hk : ∀ x, (e x).length = k) (hk0 : 0 < k) (ht : Tryz.prog.underlying t = some (.slice te)) (hc : Tryz.prog.cellsOf te = k)
    (hopen : ∀ (fuel : Nat) (cs : List Value) (x : DataW H × List MemPlace), DataW.trod enc Tryz.prog w base spare held fuel te cs = some x → ∃ v, cs = e v)
    {fuel : Nat} {cs : List Value} {x : DataW H × List MemPlace} (h : DataW.trod enc Tryz.prog w base spare held fuel t cs = some x) : ∃ A n c l, cs = [.slice A n c] ∧ l.length = n ∧ RowV w A n k (flat e l) ∧ n ≤ c ∧ c ≤ 9223372036854775807 := by
  rcases Deep.open_slice ht h with ⟨hcs, _⟩ | ⟨a, len, cap, m, n, D, Pl, hcs, _, hl, hm, hmm, _, hx⟩
  · exact ⟨none, 0, 0, [], hcs, rfl, ⟨by simp [flat], by omega, fun h => absurd h (by omega)⟩, by omega, by omega⟩
  · have hlen : len ≤ m := by rw [hmm]; split <;> omega
    have hcell : ∀ i, i < len → ∃ v : α, ∀ j u, (e v)[j]? = some u → w.cell? (a.add (i * k + j)) = some u := by
      intro i hi
      obtain ⟨cs', h1, h2⟩ := hx i (by omega)
      rw [hc] at h1
      obtain ⟨v, rfl⟩ := hopen _ _ _ h2
      refine ⟨v, fun j u hj => ?_⟩
      obtain ⟨_, _, hat⟩ := World.cells?_some h1
      have hjk : j < k := by
        have := (List.getElem?_eq_some_iff.1 hj).1
        rw [hk] at this; exact this
      have := hat j hjk
      rw [Deep.add_add] at this
      rw [this]; exact hj
    obtain ⟨f, hf⟩ := Deep.choose_lt (α := α) hcell
    have hg : ∀ i, i < len → ((List.range len).map f).getD i default = f i := fun i hi => by simp [hi]
    refine ⟨some a, len, cap, (List.range len).map f, hcs, by simp, ⟨by rw [flat_len hk]; simp, by have : cap ≤ 9223372036854775807 := hm; omega, fun hn => ?_⟩, hl, hm⟩
    obtain ⟨b, off, spot⟩ := a
    have h0 := hf 0 hn
    obtain ⟨u0, hu0⟩ : ∃ u, (e (f 0))[0]? = some u := by
      have : 0 < (e (f 0)).length := by rw [hk]; exact hk0
      exact ⟨_, List.getElem?_eq_getElem this⟩
    have hc0 := h0 0 u0 hu0
    have hspot : spot = none := by simpa [Addr.add] using World.cell?_spot hc0
    subst hspot
    refine ⟨b, off, rfl, by simpa [Addr.add] using World.block_lt_of_cell? w _ hc0, fun j u hj => ?_⟩
    have hjl : j < len * k := by
      have := (List.getElem?_eq_some_iff.1 hj).1
      rw [flat_len hk] at this; simpa using this
    have hq : j / k < len := by rw [Nat.div_lt_iff_lt_mul hk0]; exact hjl
    have hr : j % k < k := Nat.mod_lt _ hk0
    have hjj : j = j / k * k + j % k := by rw [Nat.mul_comm]; exact (Nat.div_add_mod j k).symm
    have h1 := flat_at hk ((List.range len).map f) (j / k) (j % k) (by simpa using hq) hr
    rw [← hjj, hg _ hq, hj] at h1
    have h2 := hf (j / k) hq (j % k) u h1.symm
    rw [← hjj] at h2
    rw [← h2]
    congr 1
    by_cases hz : j = 0
    · subst hz; rfl
    · simp [Addr.add, hz]
theorem cells_int : Tryz.prog.cellsOf 3 = 1 := by kernel_rfl
theorem cells_ints : Tryz.prog.cellsOf 25 = 1 := by kernel_rfl
def encF (p : Nat × Nat) : List Value := [.float .f64 p.1, .float .f64 p.2]
theorem encF_len (p : Nat × Nat) : (encF p).length = 2 := rfl
def FloatsR (w : World) (A : Option Addr) (n : Nat) (l : List (Nat × Nat)) : Prop := l.length = n ∧ RowV w A n 2 (flat encF l)
theorem FloatsR.up {w w' : World} {A n l} (h : FloatsR w A n l) (hb : Below w.heap.size w w') : FloatsR w' A n l := ⟨h.1, h.2.up hb⟩
def fth (l : List (Nat × Nat)) (i : Nat) : Nat × Nat := l.getD i default
theorem FloatsR.at {w : World} {A n l} (h : FloatsR w A n l) (hn : 0 < n) : ∃ b off, A = some ⟨b, off, none⟩ ∧ b < w.heap.size ∧ ∀ j, j < n → w.cell? ⟨b, off + j * 2, none⟩ = some (.float .f64 (fth l j).1) ∧ w.cell? ⟨b, off + j * 2 + 1, none⟩ = some (.float .f64 (fth l j).2) := by
  obtain ⟨b, off, e, hb, hc⟩ := h.2.2.2 hn
  refine ⟨b, off, e, hb, fun j hj => ?_⟩
  have hat : ∀ r u, r < 2 → (encF (fth l j))[r]? = some u → w.cell? ⟨b, off + j * 2 + r, none⟩ = some u := fun r u hr hu => by
    rw [Nat.add_assoc]
    exact hc _ u (by rw [flat_at encF_len l j r (by rw [h.1]; exact hj) hr]; exact hu)
  exact ⟨hat 0 _ (by omega) rfl, hat 1 _ (by omega) rfl⟩
end
end
/-! part Yf -/
section
open Go.RowKit
def hv19 (n mn pn lm : Nat) : Bool := decide (300 < n ∨ 100 < mn ∨ 100 < pn ∨ 100 < lm)
theorem hv19_iff {n mn pn lm : Nat} : hv19 n mn pn lm = true ↔ (300 < n ∨ 100 < mn ∨ 100 < pn ∨ 100 < lm) := by simp [hv19]
def wkV : VoteD := ⟨1, 1, 5⟩
theorem fl_1 : (4607182418800017408 : Nat) = fl 1 := by decide +kernel
theorem wk_may0 : mayV [] = true := mayV_iff.2 ⟨by simp, fun j hj => absurd hj (by simp)⟩
theorem wk_may1 : mayV [wkV] = true := mayV_iff.2 ⟨by simp, fun j hj => by
  have : j = 0 := by simpa using hj
  subst this
  exact ⟨by decide, fun h => absurd h (by omega)⟩⟩
theorem wk_give : giE [] wkV = 0 ∧ giB [] wkV = [wkV] := by
  have h1 : voteS wkV = true := by decide
  have h2 : giE [] wkV = 0 := by simp [giE, wk_may0, h1, hasV, hasF]
  exact ⟨h2, by unfold giB; rw [if_pos h2]; rfl⟩
theorem wk_ok : paOk 4607182418800017408 4607182418800017408 = true := by decide +kernel
theorem wk_n : whN 4607182418800017408 = 1 := by decide +kernel
theorem wk_has : hsB [wkV] 4607182418800017408 4607182418800017408 = 5 ∧ hsE [wkV] 4607182418800017408 4607182418800017408 = 0 := by
  have h1 : hsOk [wkV] 4607182418800017408 4607182418800017408 = true := by unfold hsOk; rw [wk_ok, wk_may1]; rfl
  have h2 : hasV [wkV] 1 1 = 5 := by decide
  constructor
  · unfold hsB; rw [if_pos h1, wk_n, h2]
  · unfold hsE; rw [if_pos h1, wk_n, h2]; rfl
end
/-! part Yh -/
section
open Go.RowKit
theorem wh_fl (n : Int) (h : 0 ≤ n) (h' : n ≤ 1099511627776) : whN (fl n) = n := by
  obtain ⟨k, rfl⟩ := Int.eq_ofNat_of_zero_le h
  obtain ⟨e, he⟩ := decode_fl k (by omega)
  unfold whN
  rw [he]
  unfold Ieee.Datum.toInt Ieee.Datum.integral
  simp only [cut_zero]
  have e1 : (-(e : Int)).toNat = 0 := by omega
  have e2 : (-(-(e : Int))).toNat = e := by omega
  rw [e1, e2]
  simp only [Nat.shiftLeft_zero, Option.getD_some]
  rw [Nat.mul_div_cancel _ (Nat.two_pow_pos e)]
  simp [Ieee.signed]
theorem whB_fl (n lo hi : Int) (h0 : 0 ≤ lo) (h1 : lo ≤ n) (h2 : n ≤ hi) (h3 : hi ≤ 1099511627776) : whB (fl n) lo hi = true := by
  have o1 := order_fl n lo (by omega) h0 (by omega) (by omega)
  have o2 := order_fl n hi (by omega) (by omega) (by omega) (by omega)
  have o3 := order_fl n n (by omega) (by omega) (by omega) (by omega)
  unfold whB okB
  rw [wh_fl n (by omega) (by omega), o1, o2, o3]
  simp only [compare, compareOfLessAndEq, Int.lt_irrefl, if_false, if_true, Bool.and_eq_true, Bool.or_eq_true, beq_iff_eq, Option.some.injEq]
  refine ⟨⟨?_, ?_⟩, trivial⟩
  · rw [if_neg (show ¬ n < lo by omega)]
    by_cases hq : n = lo
    · rw [if_pos hq]; exact .inr rfl
    · rw [if_neg hq]; exact .inl rfl
  · by_cases hq : n < hi
    · rw [if_pos hq]; exact .inl rfl
    · rw [if_neg hq, if_pos (show n = hi by omega)]; exact .inr rfl
theorem pa_fl {v : VoteD} (h : voteS v = true) : paOk (fl v.ro) (fl v.au) = true := by
  have := voteS_iff.1 h
  unfold paOk
  rw [whB_fl v.ro 0 1099511627776 (by omega) (by omega) (by omega) (by omega), whB_fl v.au 1 16 (by omega) (by omega) (by omega) (by omega)]
  rfl
theorem hs_fl {l : List VoteD} {v : VoteD} (hm : mayV l = true) (h : voteS v = true) : hsB l (fl v.ro) (fl v.au) = hasV l v.ro v.au ∧ hsE l (fl v.ro) (fl v.au) = (if hasV l v.ro v.au = 0 then 3 else 0) := by
  have h1 : hsOk l (fl v.ro) (fl v.au) = true := by unfold hsOk; rw [pa_fl h, hm]; rfl
  have := voteS_iff.1 h
  unfold hsB hsE
  rw [if_pos h1, if_pos h1, wh_fl v.ro (by omega) (by omega), wh_fl v.au (by omega) (by omega)]
  exact ⟨rfl, rfl⟩
/-! ### votes, one behind the other -/
def PwV (l : List VoteD) : Prop := List.Pairwise (fun x y => befV x y = true) l
theorem mayV_pw {l : List VoteD} : MayV l ↔ l.length ≤ 65536 ∧ (∀ x ∈ l, voteS x = true) ∧ PwV l := by
  constructor
  · intro h
    refine ⟨h.1, fun x hx => ?_, ?_⟩
    · obtain ⟨i, hi, e⟩ := List.getElem_of_mem hx
      have := (h.2 i hi).1
      rw [show vth l i = x by simp [vth, hi, e]] at this
      exact this
    · unfold PwV
      rw [List.pairwise_iff_getElem]
      intro i j hi hj hij
      have := h.pl.1 i j hij hj
      simpa [vth, hi, hj] using this
  · rintro ⟨h1, h2, h3⟩
    refine ⟨h1, fun j hj => ⟨?_, fun h0 => ?_⟩⟩
    · have := h2 l[j] (List.getElem_mem hj)
      simpa [vth, hj] using this
    · have := List.pairwise_iff_getElem.1 h3 (j - 1) j (by omega) hj (by omega)
      simpa [vth, hj, show j - 1 < l.length by omega] using this
theorem insV_nil (v : VoteD) : insV [] v = [v] := rfl
theorem insV_yes {x v : VoteD} {l : List VoteD} (h : befV x v = true) : insV (x :: l) v = x :: insV l v := by
  unfold insV
  rw [show posV (x :: l) v = posV l v + 1 by rw [posV, if_pos h]]
  simp
theorem insV_no {x v : VoteD} {l : List VoteD} (h : befV x v = false) : insV (x :: l) v = v :: x :: l := by
  unfold insV
  rw [show posV (x :: l) v = 0 by rw [posV, if_neg (by rw [h]; simp)]]
  simp
theorem mem_insV {y v : VoteD} {l : List VoteD} : y ∈ insV l v ↔ y = v ∨ y ∈ l := by
  induction l with
  | nil => simp [insV_nil]
  | cons x l ih =>
    cases h : befV x v
    · rw [insV_no h]; simp
    · rw [insV_yes h, List.mem_cons, ih, List.mem_cons]
      constructor
      · rintro (h | h | h) <;> simp [h]
      · rintro (h | h | h) <;> simp [h]
theorem befV_iff {x y : VoteD} : befV x y = true ↔ (x.ro < y.ro ∨ x.ro = y.ro ∧ x.au < y.au) := befS_iff
theorem ins_pw {v : VoteD} : ∀ {l : List VoteD}, PwV l → (∀ x ∈ l, ¬ (x.ro = v.ro ∧ x.au = v.au)) → PwV (insV l v)
  | [], _, _ => by rw [insV_nil]; exact List.pairwise_singleton _ _
  | x :: l, hp, hn => by
    have hp' := List.pairwise_cons.1 hp
    cases h : befV x v
    · rw [insV_no h]
      have hx := hn x (by simp)
      have hvx : befV v x = true := by
        rw [befV_iff]
        have : ¬ befV x v = true := by rw [h]; simp
        rw [befV_iff] at this
        omega
      refine List.pairwise_cons.2 ⟨fun y hy => ?_, hp⟩
      rcases List.mem_cons.1 hy with rfl | hy
      · exact hvx
      · exact befS_tr hvx (hp'.1 y hy)
    · rw [insV_yes h]
      refine List.pairwise_cons.2 ⟨fun y hy => ?_, ins_pw hp'.2 (fun y hy => hn y (by simp [hy]))⟩
      rcases mem_insV.1 hy with rfl | hy
      · exact h
      · exact hp'.1 y hy
theorem has_none {l : List VoteD} {r a : Int} (hM : MayV l) (h0 : hasV l r a = 0) : ∀ x ∈ l, ¬ (x.ro = r ∧ x.au = a) := fun x hx => by
  obtain ⟨i, hi, e⟩ := List.getElem_of_mem hx
  have ex : vth l i = x := by simp [vth, hi, e]
  rcases hasF_cases r a l with ⟨_, h2⟩ | ⟨j, h1, h2, _, _⟩
  · have := h2 i hi; rw [ex] at this; exact this
  · have := voteS_iff.1 (hM.2 j h1).1
    unfold hasV at h0
    omega
theorem insV_may {l : List VoteD} {v : VoteD} (hM : MayV l) (hv : voteS v = true) (h0 : hasV l v.ro v.au = 0) (hn : l.length < 65536) : MayV (insV l v) := by
  have h := mayV_pw.1 hM
  refine mayV_pw.2 ⟨by rw [insV_len]; omega, fun x hx => ?_, ins_pw h.2.2 (has_none hM h0)⟩
  rcases mem_insV.1 hx with rfl | hx
  · exact hv
  · exact h.2.1 x hx
theorem giE_zero {l : List VoteD} {v : VoteD} (h : giE l v = 0) : mayV l = true ∧ voteS v = true ∧ hasV l v.ro v.au = 0 ∧ l.length < 65536 := by
  unfold giE at h
  split at h
  · rename_i g
    split at h
    · split at h
      · exact ⟨g.1, g.2, by assumption, by assumption⟩
      · cases h
    · split at h <;> cases h
  · cases h
theorem giB_zero {l : List VoteD} {v : VoteD} (h : giE l v = 0) : giB l v = insV l v := by unfold giB; rw [if_pos h]
theorem giE_cases {l : List VoteD} {v : VoteD} (hm : mayV l = true) (hn : l.length < 65536) : (giE l v = 1 ∧ voteS v = false) ∨ (voteS v = true ∧ ((giE l v = 0 ∧ hasV l v.ro v.au = 0) ∨ (giE l v = 4 ∧ ¬ hasV l v.ro v.au = 0 ∧ hasV l v.ro v.au = v.di) ∨ (giE l v = 5 ∧ ¬ hasV l v.ro v.au = 0 ∧ ¬ hasV l v.ro v.au = v.di))) := by
  unfold giE
  cases hv : voteS v
  · left; simp
  · right
    refine ⟨rfl, ?_⟩
    rw [if_pos ⟨hm, rfl⟩]
    by_cases h0 : hasV l v.ro v.au = 0
    · left; rw [if_pos h0, if_pos hn]; exact ⟨rfl, h0⟩
    · right
      rw [if_neg h0]
      by_cases h1 : hasV l v.ro v.au = v.di
      · left; rw [if_pos h1]; exact ⟨rfl, h0, h1⟩
      · right; rw [if_neg h1]; exact ⟨rfl, h0, h1⟩
/-- From behind: each put ahead of those behind it. -/
theorem drop_give {l : List VoteD} (hM : MayV l) {i : Nat} (hi : i < l.length) : giE (l.drop (i + 1)) (vth l i) = 0 ∧ insV (l.drop (i + 1)) (vth l i) = l.drop i ∧ MayV (l.drop (i + 1)) := by
  have h := mayV_pw.1 hM
  have hd : l.drop i = vth l i :: l.drop (i + 1) := by rw [List.drop_eq_getElem_cons hi]; simp [vth, hi]
  have hp : PwV (l.drop i) := h.2.2.sublist (List.drop_sublist _ _)
  rw [hd] at hp
  have hp' := List.pairwise_cons.1 hp
  have hM2 : MayV (l.drop (i + 1)) := mayV_pw.2 ⟨by rw [List.length_drop]; omega, fun x hx => h.2.1 x (List.mem_of_mem_drop hx), hp'.2⟩
  have hv := (hM.2 i hi).1
  have h0 : hasV (l.drop (i + 1)) (vth l i).ro (vth l i).au = 0 := by
    rcases hasF_cases (vth l i).ro (vth l i).au (l.drop (i + 1)) with ⟨h1, _⟩ | ⟨j, h1, _, h3, h4⟩
    · exact h1
    · have := hp'.1 (vth (l.drop (i + 1)) j) (by unfold vth; rw [List.getD_eq_getElem?_getD, List.getElem?_eq_getElem h1]; exact List.getElem_mem h1)
      rw [befV_iff] at this
      omega
  refine ⟨?_, ?_, hM2⟩
  · unfold giE
    rw [if_pos ⟨mayV_iff.2 hM2, hv⟩, if_pos h0, if_pos (by rw [List.length_drop]; have := h.1; omega)]
  · rw [hd]
    cases hl : l.drop (i + 1) with
    | nil => rfl
    | cons y m =>
      rw [hl] at hp'
      refine insV_no ?_
      have := befV_iff.1 (hp'.1 y (by simp))
      rw [Bool.eq_false_iff]
      intro hc
      have := befV_iff.1 hc
      omega
end
/-! part Yj -/
section
open Go.RowKit
theorem own_put {w : World} {B k n c g j : Nat} {t : TypeId} {xs : List Value} {u : Value} (h : w.ownsRow B t k (.slice (some ⟨g, 0, none⟩) n c) n xs) (hj : j < n * k) : (w.setCell ⟨g, j, none⟩ u).ownsRow B t k (.slice (some ⟨g, 0, none⟩) n c) n (xs.set j u) := by
  obtain ⟨h1, h2⟩ := h
  refine ⟨by simpa using h1, ?_⟩
  rcases h2 with ⟨e, _⟩ | ⟨g', cap, cur, e, hb, hg, hc, hm, hs, ht⟩
  · cases e
  · injection e with e1 e2 e3
    injection e1 with e1; injection e1 with e1
    subst e1; subst e3
    refine .inr ⟨g, c, cur.setIfInBounds j u, rfl, hb, ?_, hc, hm, by simpa using hs, ?_⟩
    · simp [World.setCell, Array.getElem?_modify, hg]
    · rw [Array.toList_setIfInBounds, ← ht]
      apply List.ext_getElem?
      intro q
      simp only [List.getElem?_take, List.getElem?_set, List.length_take]
      by_cases hq : q < n * k
      · simp only [hq, if_true]
        by_cases hqj : j = q
        · subst hqj
          have hcl : cur.toList.length = c * k := by simpa using hs
          have : n * k ≤ c * k := Nat.mul_le_mul_right _ hc
          simp [show j < cur.size by omega, hj]
          omega
        · simp [hqj]
      · have hqj : ¬ j = q := by omega
        simp [hq, hqj]
theorem own_get {w : World} {B k n c g : Nat} {t : TypeId} {xs : List Value} (h : w.ownsRow B t k (.slice (some ⟨g, 0, none⟩) n c) n xs) : (∀ j u, xs[j]? = some u → w.cell? ⟨g, j, none⟩ = some u) ∧ ∀ j, w.frozen? ⟨g, j, none⟩ = false := by
  refine ⟨fun j u hj => ?_, fun j => ?_⟩
  · have := World.ownsRow.cells h (g := g) rfl j u hj
    simpa [Addr.add_lit] using this
  · rcases h.2 with ⟨e, _⟩ | ⟨g', cap, cur, e, hb, hg, _⟩
    · cases e
    · injection e with e1 e2 e3
      injection e1 with e1; injection e1 with e1
      subst e1
      simp [World.frozen?, hg]
theorem own_shape {w : World} {B k n : Nat} {t : TypeId} {v : Value} {xs : List Value} (h : w.ownsRow B t k v n xs) : (v = .slice none 0 0 ∧ n = 0) ∨ ∃ g c, v = .slice (some ⟨g, 0, none⟩) n c ∧ B ≤ g ∧ n ≤ c := by
  rcases h.2 with h | ⟨g, cap, cur, rfl, hb, _, hc, _⟩
  · exact .inl h
  · exact .inr ⟨g, cap, rfl, hb, hc⟩
theorem flat_set3 (v : VoteD) : ∀ (l : List VoteD) (i : Nat), i < l.length → (((flat encV l).set (i * 3) (.int .i64 v.ro)).set (i * 3 + 1) (.int .i64 v.au)).set (i * 3 + 2) (.int .i64 v.di) = flat encV (l.set i v)
  | [], i, h => absurd h (by simp)
  | x :: l, 0, _ => by simp [flat, encV]
  | x :: l, i + 1, h => by
    have ih := flat_set3 v l i (by simpa using h)
    have e : ∀ (m : List VoteD), flat encV (x :: m) = .int .i64 x.ro :: .int .i64 x.au :: .int .i64 x.di :: flat encV m := fun m => by simp [flat, encV]
    rw [List.set_cons_succ, e, e, ← ih]
    rw [show (i + 1) * 3 = i * 3 + 3 by omega]
    rfl
theorem box_votes {w : World} {g : Nat} {v : VoteD} (h : BoxR w g [.int .i64 v.ro, .int .i64 v.au, .int .i64 v.di]) : ∀ j u, (flat encV [v])[j]? = some u → w.cell? ⟨g, 0 + j, none⟩ = some u := fun j u hj => by
  rw [Nat.zero_add]
  exact h.2 j u (by simpa [flat, encV] using hj)
theorem take_vth (l : List VoteD) (k : Nat) (h : k < l.length) : l.take (k + 1) = l.take k ++ [vth l k] := by
  rw [List.take_succ_eq_append_getElem h]; simp [vth, h]
def cutV (l : List VoteD) (low : Int) : List VoteD := l.filter fun v => decide (low < v.ro)
theorem cutV_yes {l : List VoteD} {low : Int} {k : Nat} (h : k < l.length) (hr : low < (vth l k).ro) : cutV (l.take (k + 1)) low = cutV (l.take k) low ++ [vth l k] := by
  unfold cutV; rw [take_vth l k h, List.filter_append]; simp [hr]
theorem cutV_no {l : List VoteD} {low : Int} {k : Nat} (h : k < l.length) (hr : ¬ low < (vth l k).ro) : cutV (l.take (k + 1)) low = cutV (l.take k) low := by
  unfold cutV; rw [take_vth l k h, List.filter_append]; simp [hr]
theorem cutV_le (l : List VoteD) (low : Int) (k : Nat) : (cutV (l.take k) low).length ≤ k := by
  have := List.length_filter_le (fun v : VoteD => decide (low < v.ro)) (l.take k)
  unfold cutV; simp at this; omega
end
end Go.Proofs.YtgfakefcmbpboaaGreat
