/- slices.Reverse of a row of one's own; path.Rise, path.Below. -/
import Derived.Test.YtfkbilbgndekkaaS
import Derived.Deep.RegionLaw
namespace Go.Proofs.Ytfkbilbgndekkaa
open Go.RowKit
set_option linter.unusedSimpArgs false
set_option linter.unusedVariables false

theorem list_set_take {α : Type} (l : List α) (i n : Nat) (x : α) (h : i < n) : (l.set i x).take n = (l.take n).set i x := by
  apply List.ext_getElem?
  intro j
  by_cases hj : j < n
  · by_cases hij : i = j
    · subst hij
      by_cases hl : i < l.length
      · simp [hj, List.getElem?_set, List.getElem?_take, hl]; omega
      · simp [hj, List.getElem?_set, List.getElem?_take, hl]; omega
    · simp [hj, List.getElem?_set, List.getElem?_take, hij]
  · simp [hj, List.getElem?_set, List.getElem?_take]; omega
/-- A number is stored into a row of one's own. -/
theorem OwnI.put {w : World} {B g n c i : Nat} {l : List Int} {x : Int} (h : OwnI w B (.slice (some ⟨g, 0, none⟩) n c) l) (hi : i < l.length) : OwnI (w.setCell ⟨g, i, none⟩ (.int .i64 x)) B (.slice (some ⟨g, 0, none⟩) n c) (l.set i x) := by
  obtain ⟨h1, h2⟩ := h
  refine ⟨by simp, ?_⟩
  rcases h2 with ⟨e, _⟩ | ⟨g', cap, cur, e, hb, hg, hc, hm, hs, ht⟩
  · cases e
  · injection e with e1 e2 e3
    injection e1 with e1; injection e1 with e1
    subst e1; subst e2; subst e3
    refine .inr ⟨g, c, cur.setIfInBounds i (.int .i64 x), by simp, hb, ?_, by simpa using hc, hm, by simpa using hs, ?_⟩
    · simp [World.setCell, Array.getElem?_modify, hg]
    · rw [List.length_set, Array.toList_setIfInBounds, list_set_take _ _ _ _ (by omega), ht, List.map_set]
/-- .. its cells, none frozen. -/
theorem OwnI.get {w : World} {B g n c i : Nat} {l : List Int} (h : OwnI w B (.slice (some ⟨g, 0, none⟩) n c) l) (hi : i < l.length) : w.cell? ⟨g, i, none⟩ = some (.int .i64 (nth l i)) ∧ w.frozen? ⟨g, i, none⟩ = false := by
  constructor
  · have := World.ownsRow.cells h (g := g) rfl i (.int .i64 (nth l i)) (by simp [nth, hi])
    simpa [Addr.add_lit] using this
  · obtain ⟨h1, h2⟩ := h
    rcases h2 with ⟨e, _⟩ | ⟨g', cap, cur, e, hb, hg, _⟩
    · cases e
    · injection e with e1 e2 e3
      injection e1 with e1; injection e1 with e1
      subst e1
      simp [World.frozen?, hg]
theorem OwnI.shape {w : World} {B : Nat} {v : Value} {l : List Int} (h : OwnI w B v l) : (v = .slice none 0 0 ∧ l = []) ∨ ∃ g c, v = .slice (some ⟨g, 0, none⟩) l.length c ∧ B ≤ g := by
  rcases h.2 with ⟨rfl, hn⟩ | ⟨g, cap, cur, rfl, hb, _⟩
  · exact .inl ⟨rfl, by simpa using hn⟩
  · exact .inr ⟨g, cap, rfl, hb⟩
theorem nth_set {l : List Int} {i j : Nat} {x : Int} (hi : i < l.length) : nth (l.set i x) j = if j = i then x else nth l j := by
  unfold nth
  by_cases h : j = i
  · subst h; simp [hi]
  · simp [h, List.getD, List.getElem?_set, Ne.symm h]
theorem nth_reverse {l : List Int} {j : Nat} (h : j < l.length) : nth l.reverse j = nth l (l.length - 1 - j) := by
  unfold nth
  simp [h]
  rw [List.getElem?_eq_getElem (by omega)]; simp
def RevK (l : List Int) (k : Nat) (cur : List Int) : Prop := cur.length = l.length ∧ ∀ q, q < l.length → nth cur q = if q < k ∨ l.length - k ≤ q then nth l (l.length - 1 - q) else nth l q
theorem RevK.start (l : List Int) : RevK l 0 l := ⟨rfl, fun q hq => by rw [if_neg (by omega)]⟩
theorem RevK.done {l cur : List Int} {k : Nat} (h : RevK l k cur) (h1 : l.length ≤ 2 * k + 1) : cur = l.reverse := by
  refine ext_nth (by simp [h.1]) (fun q hq => ?_)
  rw [h.1] at hq
  rw [h.2 q hq, nth_reverse hq]
  split
  · rfl
  · rw [show l.length - 1 - q = q by omega]
theorem RevK.swap {l cur : List Int} {k : Nat} (h : RevK l k cur) (h1 : 2 * k + 1 < l.length) : RevK l (k + 1) ((cur.set k (nth cur (l.length - 1 - k))).set (l.length - 1 - k) (nth cur k)) := by
  have hl := h.1
  refine ⟨by simp [h.1], fun q hq => ?_⟩
  rw [nth_set (by simp; omega), nth_set (by omega)]
  have ek := h.2 k (by omega)
  have ej := h.2 (l.length - 1 - k) (by omega)
  rw [if_neg (by omega)] at ek ej
  rw [ek, ej, h.2 q hq]
  by_cases e1 : q = l.length - 1 - k
  · subst e1; rw [if_pos rfl, if_pos (by omega)]; congr 1; omega
  · rw [if_neg e1]
    by_cases e2 : q = k
    · subst e2; rw [if_pos rfl, if_pos (by omega)]
    · rw [if_neg e2]
      by_cases e3 : q < k ∨ l.length - k ≤ q
      · rw [if_pos e3, if_pos (by omega)]
      · rw [if_neg e3, if_neg (by omega)]
set_option maxRecDepth 100000 in
set_option maxHeartbeats 1000000 in
theorem slices_Reverse (v : Value) (l : List Int) (B : Nat) (w : World) (hown : OwnI w B v l) (hlen : l.length ≤ 65536) :
    Calls Try.prog 106 #[v] w fun e w' => e = .returned (.tuple #[]) ∧ OwnI w' B v l.reverse ∧ Below B w w' := by
  rcases hown.shape with ⟨rfl, rfl⟩ | ⟨g, c, rfl, hB⟩
  · have HO := Lib.hid hown; clear hown
    go_enter Try.func106, Try.ntmps106
    go_wp2
    go_loop [2, 3] (fun i j => i = .int .i64 0 ∧ j = .int .i64 (-1)) (fun _ _ => 0)
    case atStart => exact ⟨rfl, rfl⟩
    case round =>
      obtain ⟨rfl, rfl⟩ := hrel
      go_wp2
      go_end0
      exact ⟨rfl, HO.out, Below.refl _ _⟩
  · obtain ⟨n, hn⟩ : ∃ n, n = l.length := ⟨_, rfl⟩
    rw [← hn] at hown hlen ⊢
    have HN := Lib.hid hn; clear hn
    go_enter Try.func106, Try.ntmps106
    go_wp2
    go_loopw [2, 3] (fun i j wr => ∃ (k : Nat) (cur : List Int), 2 * k ≤ n ∧ i = .int .i64 k ∧ j = .int .i64 ((n : Int) - 1 - k) ∧ Hid (RevK l k cur) ∧ OwnI wr B (.slice (some ⟨g, 0, none⟩) n c) cur ∧ Below B w wr) (fun i _ _ => n - (intOf i).toNat)
    case atStart => exact ⟨0, l, by omega, rfl, by go_num, RevK.start l, hown, Below.refl _ _⟩
    case round =>
      clear hown
      obtain ⟨k, cur, hk, rfl, rfl, hR, hown, hbw⟩ := hrel
      by_cases hlt : 2 * k + 1 < n
      · obtain ⟨j, hj⟩ : ∃ j : Nat, j = n - 1 - k := ⟨_, rfl⟩
        have hcl : cur.length = n := by rw [hR.out.1, HN.out]
        have HCL := Lib.hid hcl; clear hcl
        have c1 := hown.get (i := k) (by rw [HCL.out]; omega)
        have c2 := hown.get (i := j) (by rw [HCL.out]; omega)
        obtain ⟨c1, f1⟩ := c1
        obtain ⟨c2, f2⟩ := c2
        rw [show (n : Int) - 1 - k = (j : Int) by omega]
        have hjk : k < j := by omega
        have hjn : j < n := by omega
        have HJ := Lib.hid hj; clear hj
        go_wp2_with fail
        go_region
        go_wp2_with fail
        have hsw := hR.out.swap (by rw [← HN.out]; exact hlt)
        rw [← HN.out, ← HJ.out] at hsw
        have hput := (hown.put (i := k) (x := nth cur j) (by rw [HCL.out]; omega)).put (i := j) (x := nth cur k) (by simp; rw [HCL.out]; omega)
        have hjz : (j : Int) - 1 = (n : Int) - 1 - ((k + 1 : Nat) : Int) := by have := HJ.out; omega
        (first | (go_round; (case rel => exact ⟨k + 1, _, by omega, by go_num, by rw [hjz], hsw, hput, ((hbw.setCell hB _).setCell hB _).drew⟩); (case measure => (simp [intOf] <;> omega))) | (go_roundw; (case rel => exact ⟨k + 1, _, by omega, by go_num, by rw [hjz], hsw, hput, ((hbw.setCell hB _).setCell hB _).drew⟩); (case measure => (simp [intOf] <;> omega))) | (refine ⟨?_, by simp [intOf] <;> omega⟩; (repeat apply Exists.intro); refine ⟨?rel, ?fr⟩; (case fr => ((repeat' apply And.intro) <;> rfl)); (case rel => exact ⟨k + 1, _, by omega, by go_num, by rw [hjz], hsw, hput, ((hbw.setCell hB _).setCell hB _).drew⟩)))
      · go_wp2_with fail
        go_end0
        have hd := hR.out.done (by rw [← HN.out]; omega)
        exact ⟨rfl, hd ▸ hown, hbw⟩

theorem path_Rise (b off n c : Nat) (certs : List CertD) (nodes dlow low : Int) (x : Int) (i : Nat) (hx : x = (i : Int)) (w : World) (hl : CertsR w (some ⟨b, off, none⟩) n certs) (hi : i < n) (hn : n ≤ 65536) (hlo1 : -9223372036854775808 ≤ dlow) (hlo2 : dlow ≤ 1099511627776) :
    Calls Try.prog 72 #[.agg #[.int .i64 nodes, .int .i64 dlow, .slice (some ⟨b, off, none⟩) n c], .int .i64 x, .int .i64 low] w fun e w' => ∃ v, e = .returned v ∧ OwnI w' w.heap.size v (downS certs dlow i low).reverse ∧ Below w.heap.size w w' := by
  subst hx
  have HL := Lib.hid hl; clear hl
  go_enter Try.func72, Try.ntmps72
  go_wp2_with (first
    | (go_at_call 105; refine (path_Down b off n c certs nodes dlow low i _ (HL.out.up (by (repeat (first | (with_reducible exact Below.refl _ _) | (with_reducible assumption) | (with_reducible apply bel_alloc) | (with_reducible apply bel_drew) | (with_reducible apply bel_drewN) | (with_reducible refine bel_trans ?_ (by with_reducible assumption)) | (with_reducible refine bel_trans ?_ (HF.out _)) | (with_reducible refine bel_set ?_ (by simp) _) | (with_reducible refine bel_set ?_ (by simp; omega) _) | (with_reducible refine bel_set ?_ (by omega) _))))) hi hn hlo1 hlo2).mono ?_; rintro e w1 ⟨v, rfl, hown1, hb1⟩)
    | (go_at_call 106; refine (slices_Reverse _ _ _ _ hown1 (by have := downS_len certs dlow low i; omega)).mono ?_; rintro e w2 ⟨rfl, hown2, hb2⟩))
  go_ret
  refine ⟨_, rfl, hown2.mono (by simp), Below.trans (B := w.heap.size) (by (repeat (first | (with_reducible exact Below.refl _ _) | (with_reducible assumption) | (with_reducible apply bel_alloc) | (with_reducible apply bel_drew) | (with_reducible apply bel_drewN) | (with_reducible refine bel_trans ?_ (by with_reducible assumption)) | (with_reducible refine bel_trans ?_ (HF.out _)) | (with_reducible refine bel_set ?_ (by simp) _) | (with_reducible refine bel_set ?_ (by simp; omega) _) | (with_reducible refine bel_set ?_ (by omega) _)))) (hb2.mono (by simp))⟩
noncomputable def belowB (D : DagD) (a low : Int) : List Int := if mayS D = true ∧ 0 ≤ findS D.certs a then belowS D.certs D.low low (findS D.certs a).toNat else []
noncomputable def belowE (D : DagD) (a : Int) : Int := if mayS D = true then (if 0 ≤ findS D.certs a then 0 else 3) else 1
theorem below_bad {D : DagD} (h : mayS D = false) (a low : Int) : belowB D a low = [] ∧ belowE D a = 1 := by simp [belowB, belowE, h]
theorem below_none {D : DagD} (h : mayS D = true) {a : Int} (low : Int) (hn : findS D.certs a < 0) : belowB D a low = [] ∧ belowE D a = 3 := by
  unfold belowB belowE; rw [if_neg (by omega), if_pos h, if_neg (by omega)]; exact ⟨rfl, rfl⟩
theorem below_ok {D : DagD} (h : mayS D = true) {a : Int} (low : Int) {i : Nat} (ha : findS D.certs a = (i : Int)) : belowB D a low = belowS D.certs D.low low i ∧ belowE D a = 0 := by
  unfold belowB belowE; rw [if_pos ⟨h, by omega⟩, if_pos h, if_pos (by omega), ha]; exact ⟨rfl, rfl⟩
set_option maxRecDepth 100000 in
set_option maxHeartbeats 1000000 in
theorem path_Below (A : Option Addr) (n c : Nat) (D : DagD) (a low : Int) (w : World) (hl : CertsR w A n D.certs) :
    Calls Try.prog 20 #[.agg #[.int .i64 D.nodes, .int .i64 D.low, .slice A n c], .int .i64 a, .int .i64 low] w fun e w' => ∃ v, e = .returned (.tuple #[v, .int .i64 (belowE D a)]) ∧ OwnI w' w.heap.size v (belowB D a low) ∧ Below w.heap.size w w' := by
  have HL := Lib.hid hl
  obtain ⟨hlen, _, hA⟩ := hl
  have HN := Lib.hid hlen; clear hlen
  have HA := Lib.hid hA; clear hA
  cases hm : mayS D
  · have hq := below_bad hm a low
    go_enter Try.func20, Try.ntmps20
    go_wp2_with (go_at_call 70; refine (dag_May _ _ _ D _ (HL.out.up (by (repeat (first | (with_reducible exact Below.refl _ _) | (with_reducible assumption) | (with_reducible apply bel_alloc) | (with_reducible apply bel_drew) | (with_reducible apply bel_drewN) | (with_reducible refine bel_trans ?_ (by with_reducible assumption)) | (with_reducible refine bel_trans ?_ (HF.out _)) | (with_reducible refine bel_set ?_ (by simp) _) | (with_reducible refine bel_set ?_ (by simp; omega) _) | (with_reducible refine bel_set ?_ (by omega) _)))))).mono ?_; rintro e w1 ⟨rfl, hb1⟩; have hz_w1 : w.heap.size + 1 ≤ w1.heap.size := (by have hq := (hb1).size; (try simp at hq); omega); have hc0_w1 := fun o => (bcell hb1).1 (w.heap.size) o (by first | (simp; done) | (simp; omega) | omega))
    go_ret2
    exact ⟨.slice none 0 0, by rw [hq.2]; rfl, by rw [hq.1]; exact OwnI.nil _ _, by (repeat (first | (with_reducible exact Below.refl _ _) | (with_reducible assumption) | (with_reducible apply bel_alloc) | (with_reducible apply bel_drew) | (with_reducible apply bel_drewN) | (with_reducible refine bel_trans ?_ (by with_reducible assumption)) | (with_reducible refine bel_trans ?_ (HF.out _)) | (with_reducible refine bel_set ?_ (by simp) _) | (with_reducible refine bel_set ?_ (by simp; omega) _) | (with_reducible refine bel_set ?_ (by omega) _)))⟩
  · have hok := mayS_iff.1 hm
    have hn : n ≤ 65536 := by have := hok.2.2.2.1; rw [HN.out] at this; exact this
    have hlo1 : -9223372036854775808 ≤ D.low := by have := hok.2.1; omega
    have hlo2 : D.low ≤ 1099511627776 := hok.2.2.1
    have HOK := Lib.hid hok; clear hok
    have HM := Lib.hid hm
    rcases findS_cases D.certs a with ⟨ea, _⟩ | ⟨i, hi, ea, _⟩
    · have hq := below_none HM.out (a := a) low (by omega)
      have EA := Lib.hid ea; clear ea
      go_enter Try.func20, Try.ntmps20
      go_wp2_with (first
        | (go_at_call 70; refine (dag_May _ _ _ D _ (HL.out.up (by (repeat (first | (with_reducible exact Below.refl _ _) | (with_reducible assumption) | (with_reducible apply bel_alloc) | (with_reducible apply bel_drew) | (with_reducible apply bel_drewN) | (with_reducible refine bel_trans ?_ (by with_reducible assumption)) | (with_reducible refine bel_trans ?_ (HF.out _)) | (with_reducible refine bel_set ?_ (by simp) _) | (with_reducible refine bel_set ?_ (by simp; omega) _) | (with_reducible refine bel_set ?_ (by omega) _)))))).mono ?_; rintro e w1 ⟨rfl, hb1⟩; have hz_w1 : w.heap.size + 1 ≤ w1.heap.size := (by have hq := (hb1).size; (try simp at hq); omega); have hc0_w1 := fun o => (bcell hb1).1 (w.heap.size) o (by first | (simp; done) | (simp; omega) | omega))
        | (go_at_call 71; refine (dag_Get _ _ _ D.certs _ _ _ _ (HL.out.up (by (repeat (first | (with_reducible exact Below.refl _ _) | (with_reducible assumption) | (with_reducible apply bel_alloc) | (with_reducible apply bel_drew) | (with_reducible apply bel_drewN) | (with_reducible refine bel_trans ?_ (by with_reducible assumption)) | (with_reducible refine bel_trans ?_ (HF.out _)) | (with_reducible refine bel_set ?_ (by simp) _) | (with_reducible refine bel_set ?_ (by simp; omega) _) | (with_reducible refine bel_set ?_ (by omega) _)))))).mono ?_; rintro e w2 ⟨rfl, hb2⟩; rw [EA.out]))
      go_ret2
      exact ⟨.slice none 0 0, by rw [hq.2]; rfl, by rw [hq.1]; exact OwnI.nil _ _, by (repeat (first | (with_reducible exact Below.refl _ _) | (with_reducible assumption) | (with_reducible apply bel_alloc) | (with_reducible apply bel_drew) | (with_reducible apply bel_drewN) | (with_reducible refine bel_trans ?_ (by with_reducible assumption)) | (with_reducible refine bel_trans ?_ (HF.out _)) | (with_reducible refine bel_set ?_ (by simp) _) | (with_reducible refine bel_set ?_ (by simp; omega) _) | (with_reducible refine bel_set ?_ (by omega) _)))⟩
    · have hq := below_ok HM.out (a := a) low ea
      have hin : i < n := by rw [← HN.out]; exact hi
      have EA := Lib.hid ea; clear ea
      have EQ := Lib.hid hq; clear hq
      obtain ⟨b, off, rfl, _, _⟩ := HA.out (by omega)
      go_enter Try.func20, Try.ntmps20
      go_wp2_with (first
        | (go_at_call 70; refine (dag_May _ _ _ D _ (HL.out.up (by (repeat (first | (with_reducible exact Below.refl _ _) | (with_reducible assumption) | (with_reducible apply bel_alloc) | (with_reducible apply bel_drew) | (with_reducible apply bel_drewN) | (with_reducible refine bel_trans ?_ (by with_reducible assumption)) | (with_reducible refine bel_trans ?_ (HF.out _)) | (with_reducible refine bel_set ?_ (by simp) _) | (with_reducible refine bel_set ?_ (by simp; omega) _) | (with_reducible refine bel_set ?_ (by omega) _)))))).mono ?_; rintro e w1 ⟨rfl, hb1⟩; have hz_w1 : w.heap.size + 1 ≤ w1.heap.size := (by have hq := (hb1).size; (try simp at hq); omega); have hc0_w1 := fun o => (bcell hb1).1 (w.heap.size) o (by first | (simp; done) | (simp; omega) | omega))
        | (go_at_call 71; refine (dag_Get _ _ _ D.certs _ _ _ _ (HL.out.up (by (repeat (first | (with_reducible exact Below.refl _ _) | (with_reducible assumption) | (with_reducible apply bel_alloc) | (with_reducible apply bel_drew) | (with_reducible apply bel_drewN) | (with_reducible refine bel_trans ?_ (by with_reducible assumption)) | (with_reducible refine bel_trans ?_ (HF.out _)) | (with_reducible refine bel_set ?_ (by simp) _) | (with_reducible refine bel_set ?_ (by simp; omega) _) | (with_reducible refine bel_set ?_ (by omega) _)))))).mono ?_; rintro e w2 ⟨rfl, hb2⟩; rw [EA.out]; have hz2 : w.heap.size + 1 ≤ w2.heap.size := (by have := hb2.size; omega); have hc2 := fun o => (bcell hb2).1 w.heap.size o (by omega))
        | (go_at_call 72; refine (path_Rise b off n c D.certs _ _ low _ i rfl _ (HL.out.up (by (repeat (first | (with_reducible exact Below.refl _ _) | (with_reducible assumption) | (with_reducible apply bel_alloc) | (with_reducible apply bel_drew) | (with_reducible apply bel_drewN) | (with_reducible refine bel_trans ?_ (by with_reducible assumption)) | (with_reducible refine bel_trans ?_ (HF.out _)) | (with_reducible refine bel_set ?_ (by simp) _) | (with_reducible refine bel_set ?_ (by simp; omega) _) | (with_reducible refine bel_set ?_ (by omega) _))))) hin hn hlo1 hlo2).mono ?_; rintro e w3 ⟨v, rfl, hown3, hb3⟩))
      go_ret2
      exact ⟨v, by rw [EQ.out.2]; rfl, by rw [EQ.out.1, ← below_eq HOK.out low hi]; exact hown3.mono (by omega), by (repeat (first | (with_reducible exact Below.refl _ _) | (with_reducible assumption) | (with_reducible apply bel_alloc) | (with_reducible apply bel_drew) | (with_reducible apply bel_drewN) | (with_reducible refine bel_trans ?_ (by with_reducible assumption)) | (with_reducible refine bel_trans ?_ (HF.out _)) | (with_reducible refine bel_set ?_ (by simp) _) | (with_reducible refine bel_set ?_ (by simp; omega) _) | (with_reducible refine bel_set ?_ (by omega) _)))⟩
end Go.Proofs.Ytfkbilbgndekkaa
