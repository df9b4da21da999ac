/- Unlike ones: EqTxs, EqNumbers, EqBatch, EqHeader, EqCert, EqMessage tell false. -/
import Derived.Test.YtgfakefcmbpboaaGreatSuWx2
namespace Go.Proofs.YtgfakefcmbpboaaGreat
set_option linter.all false
set_option maxRecDepth 100000
open Go.RowKit

theorem dec_t {p : Prop} (h : p) : dec p = true := dec_iff.2 h
set_option maxHeartbeats 1000000 in
theorem ref0_EqTxs_no (A : Option Addr) (n c : Nat) (A' : Option Addr) (n' c' : Nat) (l l' : List TxD) (w : World) (hl : TxsR w A n l) (hl' : TxsR w A' n' l') (hx : l = l' ∨ l = []) (h : l ≠ l') :
    Calls Tryz.prog 80 #[.slice A n c, .slice A' n' c'] w fun e w' => e = .returned (.bool false) ∧ Below w.heap.size w w' := by
  have hnm : ¬ n = n' := by
    rintro rfl
    rcases hx with e | e
    · exact h e
    · subst e
      have e1 := hl.1
      have e2 := hl'.1
      simp only [List.length_nil] at e1
      exact h (List.eq_nil_of_length_eq_zero (by omega)).symm
  clear hx h hl hl'
  go_enter Tryz.func80, Tryz.ntmps80
  go_wp2_with fail
  go_ret
  exact ⟨rfl, belB⟩
theorem ref0_EqNumbers_no (A : Option Addr) (n c : Nat) (l : List Int) (B : Option Addr) (m d : Nat) (k : List Int) (w : World) (hl : IntsR w A n l) (hk : IntsR w B m k) (h : l ≠ k) :
    Calls Tryz.prog 65 #[.slice A n c, .slice B m d] w fun e w' => e = .returned (.bool false) ∧ Below w.heap.size w w' :=
  (ref0_EqNumbers A n c l B m d k w hl hk).mono fun e w' ⟨h1, h2⟩ => ⟨by rw [h1]; exact ret_bool (dec_false h).symm, h2⟩

set_option maxHeartbeats 1000000 in
theorem ref0_EqBatch_no (b b' : BatchD) (A : Option Addr) (n c : Nat) (A' : Option Addr) (n' c' : Nat) (w : World) (hl : TxsR w A n b.tx) (hl' : TxsR w A' n' b'.tx) (hx : b.tx = b'.tx ∨ b.tx = []) (h : b ≠ b') :
    Calls Tryz.prog 43 #[.agg #[.int .i64 b.au, .int .i64 b.n, .slice A n c], .agg #[.int .i64 b'.au, .int .i64 b'.n, .slice A' n' c']] w fun e w' => e = .returned (.bool false) ∧ Below w.heap.size w w' := by
  obtain ⟨au, bn, tx⟩ := b
  obtain ⟨au', bn', tx'⟩ := b'
  dsimp only at hl hl' hx ⊢
  have HL := ħ hl
  have HL' := ħ hl'
  have HX := ħ hx
  clear hl hl' hx
  by_cases h0 : au = au'
  rotate_left
  · clear h
    go_enter Tryz.func43, Tryz.ntmps43
    go_wp2_with fail
    go_ret
    exact ⟨rfl, belB⟩
  subst h0
  by_cases h1 : bn = bn'
  rotate_left
  · clear h
    go_enter Tryz.func43, Tryz.ntmps43
    go_wp2_with fail
    go_ret
    exact ⟨rfl, belB⟩
  subst h1
  have h2 : tx ≠ tx' := fun e => h (by rw [e])
  clear h
  go_enter Tryz.func43, Tryz.ntmps43
  go_wp2_with fail
  refine (ref0_EqTxs_no A n c A' n' c' tx tx' _ (HL.out.up (belB)) (HL'.out.up (belB)) HX.out h2).mono ?_
  rintro e w1 ⟨rfl, hb1⟩
  go_wp2_with fail
  go_ret
  exact ⟨rfl, belB⟩
set_option maxHeartbeats 1000000 in
theorem ref0_EqHeader_no (H K : HeaderD) (b1A p1A b2A p2A : Option Addr) (b1n b1c p1n p1c b2n b2c p2n p2c : Nat) (w : World) (hp : HeaderR w ⟨⟨b1A, b1n, b1c⟩, ⟨p1A, p1n, p1c⟩⟩ H) (hq : HeaderR w ⟨⟨b2A, b2n, b2c⟩, ⟨p2A, p2n, p2c⟩⟩ K) (h : H ≠ K) :
    Calls Tryz.prog 97 #[.agg #[.int .i64 H.au, .int .i64 H.ro, .slice b1A b1n b1c, .slice p1A p1n p1c], .agg #[.int .i64 K.au, .int .i64 K.ro, .slice b2A b2n b2c, .slice p2A p2n p2c]] w fun e w' => e = .returned (.bool false) ∧ Below w.heap.size w w' := by
  obtain ⟨au, ro, ba, pa⟩ := H
  obtain ⟨au', ro', ba', pa'⟩ := K
  have h1 : IntsR w b1A b1n ba := hp.1
  have h2 : IntsR w p1A p1n pa := hp.2
  have h3 : IntsR w b2A b2n ba' := hq.1
  have h4 : IntsR w p2A p2n pa' := hq.2
  have G1 := ħ h1; have G2 := ħ h2; have G3 := ħ h3; have G4 := ħ h4
  clear hp hq h1 h2 h3 h4
  dsimp only
  by_cases h0 : au = au'
  rotate_left
  · clear h
    go_enter Tryz.func97, Tryz.ntmps97
    go_wp2_with fail
    go_ret
    exact ⟨rfl, belB⟩
  subst h0
  by_cases h1 : ro = ro'
  rotate_left
  · clear h
    go_enter Tryz.func97, Tryz.ntmps97
    go_wp2_with fail
    go_ret
    exact ⟨rfl, belB⟩
  subst h1
  by_cases h2 : ba = ba'
  rotate_left
  · clear h
    go_enter Tryz.func97, Tryz.ntmps97
    go_wp2_with fail
    refine (ref0_EqNumbers_no b1A b1n b1c ba b2A b2n b2c ba' _ (G1.out.up (belB)) (G3.out.up (belB)) h2).mono ?_
    rintro e w1 ⟨rfl, hb1⟩
    go_wp2_with fail
    go_ret
    exact ⟨rfl, belB⟩
  subst h2
  have h3 : pa ≠ pa' := fun e => h (by rw [e])
  clear h
  go_enter Tryz.func97, Tryz.ntmps97
  go_wp2_with fail
  refine (ref0_EqNumbers_same b1A b1n b1c ba b2A b2n b2c _ (G1.out.up (belB)) (G3.out.up (belB))).mono ?_
  rintro e w1 ⟨rfl, hb1⟩
  have hz_w1 : w.heap.size + 2 ≤ w1.heap.size := (by have hq := (hb1).size; (try simp at hq); omega); have hc0_w1 := fun o => (bcell hb1).1 (w.heap.size) o (by first | (simp; done) | (simp; omega) | omega); have hc1_w1 := fun o => (bcell hb1).1 (w.heap.size + 1) o (by first | (simp; done) | (simp; omega) | omega)
  go_wp2_with fail
  refine (ref0_EqNumbers_no p1A p1n p1c pa p2A p2n p2c pa' _ (G2.out.up (belB)) (G4.out.up (belB)) h3).mono ?_
  rintro e w2 ⟨rfl, hb2⟩
  go_wp2_with fail
  go_ret
  exact ⟨rfl, belB⟩
set_option maxHeartbeats 1000000 in
theorem ref0_EqCert_no (C K : CertD) (b1A p1A s1A b2A p2A s2A : Option Addr) (b1n b1c p1n p1c s1n s1c b2n b2c p2n p2c s2n s2c : Nat) (w : World) (hp : CertR w ⟨⟨⟨b1A, b1n, b1c⟩, ⟨p1A, p1n, p1c⟩⟩, ⟨s1A, s1n, s1c⟩⟩ C) (hq : CertR w ⟨⟨⟨b2A, b2n, b2c⟩, ⟨p2A, p2n, p2c⟩⟩, ⟨s2A, s2n, s2c⟩⟩ K) (h : C ≠ K) :
    Calls Tryz.prog 98 #[.agg #[.int .i64 C.h.au, .int .i64 C.h.ro, .slice b1A b1n b1c, .slice p1A p1n p1c, .int .i64 C.di, .slice s1A s1n s1c], .agg #[.int .i64 K.h.au, .int .i64 K.h.ro, .slice b2A b2n b2c, .slice p2A p2n p2c, .int .i64 K.di, .slice s2A s2n s2c]] w fun e w' => e = .returned (.bool false) ∧ Below w.heap.size w w' := by
  obtain ⟨H, di, si⟩ := C
  obtain ⟨H', di', si'⟩ := K
  have h1 : HeaderR w ⟨⟨b1A, b1n, b1c⟩, ⟨p1A, p1n, p1c⟩⟩ H := hp.1
  have h2 : HeaderR w ⟨⟨b2A, b2n, b2c⟩, ⟨p2A, p2n, p2c⟩⟩ H' := hq.1
  have h3 : IntsR w s1A s1n si := hp.2
  have h4 : IntsR w s2A s2n si' := hq.2
  have G1 := ħ h1; have G2 := ħ h2; have G3 := ħ h3; have G4 := ħ h4
  clear hp hq h1 h2 h3 h4
  dsimp only
  by_cases h0 : H = H'
  rotate_left
  · clear h
    go_enter Tryz.func98, Tryz.ntmps98
    go_wp2_with fail
    refine (ref0_EqHeader_no H H' b1A p1A b2A p2A b1n b1c p1n p1c b2n b2c p2n p2c _ (G1.out.up (belB)) (G2.out.up (belB)) h0).mono ?_
    rintro e w1 ⟨rfl, hb1⟩
    go_wp2_with fail
    go_ret
    exact ⟨rfl, belB⟩
  subst h0
  by_cases h1 : di = di'
  rotate_left
  · clear h
    go_enter Tryz.func98, Tryz.ntmps98
    go_wp2_with fail
    refine (ref0_EqHeader' H b1A p1A b2A p2A b1n b1c p1n p1c b2n b2c p2n p2c _ (G1.out.up (belB)) (G2.out.up (belB))).mono ?_
    rintro e w1 ⟨rfl, hb1⟩
    have hz_w1 : w.heap.size + 2 ≤ w1.heap.size := (by have hq := (hb1).size; (try simp at hq); omega); have hc0_w1 := fun o => (bcell hb1).1 (w.heap.size) o (by first | (simp; done) | (simp; omega) | omega); have hc1_w1 := fun o => (bcell hb1).1 (w.heap.size + 1) o (by first | (simp; done) | (simp; omega) | omega)
    go_wp2_with fail
    go_ret
    exact ⟨rfl, belB⟩
  subst h1
  have h2 : si ≠ si' := fun e => h (by rw [e])
  clear h
  go_enter Tryz.func98, Tryz.ntmps98
  go_wp2_with fail
  refine (ref0_EqHeader' H b1A p1A b2A p2A b1n b1c p1n p1c b2n b2c p2n p2c _ (G1.out.up (belB)) (G2.out.up (belB))).mono ?_
  rintro e w1 ⟨rfl, hb1⟩
  have hz_w1 : w.heap.size + 2 ≤ w1.heap.size := (by have hq := (hb1).size; (try simp at hq); omega); have hc0_w1 := fun o => (bcell hb1).1 (w.heap.size) o (by first | (simp; done) | (simp; omega) | omega); have hc1_w1 := fun o => (bcell hb1).1 (w.heap.size + 1) o (by first | (simp; done) | (simp; omega) | omega)
  go_wp2_with fail
  refine (ref0_EqNumbers_no s1A s1n s1c si s2A s2n s2c si' _ (G3.out.up (belB)) (G4.out.up (belB)) h2).mono ?_
  rintro e w2 ⟨rfl, hb2⟩
  go_wp2_with fail
  go_ret
  exact ⟨rfl, belB⟩
set_option maxHeartbeats 8000000 in
theorem ref0_EqMessage_no (P Q : MsgP) (X M : MsgD) (w : World) (hp : MsgR w P X) (hq : MsgR w Q M) (hx : X.b.tx = M.b.tx ∨ X.b.tx = []) (h : X ≠ M) :
    Calls Tryz.prog 52 #[M18 P X, M18 Q M] w fun e w' => e = .returned (.bool false) ∧ Below w.heap.size w w' := by
  obtain ⟨⟨bA, bn, bc⟩, ⟨⟨xA, xn, xc⟩, ⟨yA, yn, yc⟩⟩, ⟨⟨⟨cA, cn, cd⟩, ⟨dA, dn, dc⟩⟩, ⟨sA, sn, sc⟩⟩, ⟨eA, en, ec⟩⟩ := P
  obtain ⟨⟨bA', bn', bc'⟩, ⟨⟨xA', xn', xc'⟩, ⟨yA', yn', yc'⟩⟩, ⟨⟨⟨cA', cn', cd'⟩, ⟨dA', dn', dc'⟩⟩, ⟨sA', sn', sc'⟩⟩, ⟨eA', en', ec'⟩⟩ := Q
  obtain ⟨ki, fr, tt, di, b, hh, cc, ds⟩ := X
  obtain ⟨ki', fr', tt', di', b', hh', cc', ds'⟩ := M
  have G1 : Hid (TxsR w bA bn b.tx) := ħ hp.tx
  have G2 : Hid (TxsR w bA' bn' b'.tx) := ħ hq.tx
  have G3 : Hid (HeaderR w ⟨⟨xA, xn, xc⟩, ⟨yA, yn, yc⟩⟩ hh) := ħ hp.h
  have G4 : Hid (HeaderR w ⟨⟨xA', xn', xc'⟩, ⟨yA', yn', yc'⟩⟩ hh') := ħ hq.h
  have G5 : Hid (CertR w ⟨⟨⟨cA, cn, cd⟩, ⟨dA, dn, dc⟩⟩, ⟨sA, sn, sc⟩⟩ cc) := ħ hp.c
  have G6 : Hid (CertR w ⟨⟨⟨cA', cn', cd'⟩, ⟨dA', dn', dc'⟩⟩, ⟨sA', sn', sc'⟩⟩ cc') := ħ hq.c
  have G7 : Hid (IntsR w eA en ds) := ħ hp.ds
  have G8 : Hid (IntsR w eA' en' ds') := ħ hq.ds
  have HX : Hid (b.tx = b'.tx ∨ b.tx = []) := ħ hx
  clear hp hq hx
  show Calls Tryz.prog 52 #[.agg #[.int .i64 ki, .int .i64 fr, .int .i64 tt, .int .i64 di, .int .i64 b.au, .int .i64 b.n, .slice bA bn bc, .int .i64 hh.au, .int .i64 hh.ro, .slice xA xn xc, .slice yA yn yc, .int .i64 cc.h.au, .int .i64 cc.h.ro, .slice cA cn cd, .slice dA dn dc, .int .i64 cc.di, .slice sA sn sc, .slice eA en ec], .agg #[.int .i64 ki', .int .i64 fr', .int .i64 tt', .int .i64 di', .int .i64 b'.au, .int .i64 b'.n, .slice bA' bn' bc', .int .i64 hh'.au, .int .i64 hh'.ro, .slice xA' xn' xc', .slice yA' yn' yc', .int .i64 cc'.h.au, .int .i64 cc'.h.ro, .slice cA' cn' cd', .slice dA' dn' dc', .int .i64 cc'.di, .slice sA' sn' sc', .slice eA' en' ec']] w fun e w' => e = .returned (.bool false) ∧ Below w.heap.size w w'
  by_cases h0 : ki = ki'
  rotate_left
  · clear h
    go_enter Tryz.func52, Tryz.ntmps52
    go_wp2_with fail
    go_ret
    exact ⟨rfl, belB⟩
  subst h0
  by_cases h1 : fr = fr'
  rotate_left
  · clear h
    go_enter Tryz.func52, Tryz.ntmps52
    go_wp2_with fail
    go_ret
    exact ⟨rfl, belB⟩
  subst h1
  by_cases h2 : tt = tt'
  rotate_left
  · clear h
    go_enter Tryz.func52, Tryz.ntmps52
    go_wp2_with fail
    go_ret
    exact ⟨rfl, belB⟩
  subst h2
  by_cases h3 : di = di'
  rotate_left
  · clear h
    go_enter Tryz.func52, Tryz.ntmps52
    go_wp2_with fail
    go_ret
    exact ⟨rfl, belB⟩
  subst h3
  by_cases h4 : b = b'
  rotate_left
  · clear h
    go_enter Tryz.func52, Tryz.ntmps52
    go_wp2_with fail
    refine (ref0_EqBatch_no b b' bA bn bc bA' bn' bc' _ (G1.out.up (belB)) (G2.out.up (belB)) HX.out h4).mono ?_
    rintro e w1 ⟨rfl, hb1⟩
    go_wp2_with fail
    go_ret
    exact ⟨rfl, belB⟩
  subst h4
  by_cases h5 : hh = hh'
  rotate_left
  · clear h
    go_enter Tryz.func52, Tryz.ntmps52
    go_wp2_with fail
    refine (ref0_EqBatch b bA bn bc bA' bn' bc' _ (G1.out.up (belB)) (G2.out.up (belB))).mono ?_
    rintro e w1 ⟨rfl, hb1⟩
    have hz_w1 : w.heap.size + 2 ≤ w1.heap.size := (by have hq := (hb1).size; (try simp at hq); omega); have hc0_w1 := fun o => (bcell hb1).1 (w.heap.size) o (by first | (simp; done) | (simp; omega) | omega); have hc1_w1 := fun o => (bcell hb1).1 (w.heap.size + 1) o (by first | (simp; done) | (simp; omega) | omega)
    go_wp2_with fail
    refine (ref0_EqHeader_no hh hh' xA yA xA' yA' xn xc yn yc xn' xc' yn' yc' _ (G3.out.up (belB)) (G4.out.up (belB)) h5).mono ?_
    rintro e w2 ⟨rfl, hb2⟩
    go_wp2_with fail
    go_ret
    exact ⟨rfl, belB⟩
  subst h5
  by_cases h6 : cc = cc'
  rotate_left
  · clear h
    go_enter Tryz.func52, Tryz.ntmps52
    go_wp2_with fail
    refine (ref0_EqBatch b bA bn bc bA' bn' bc' _ (G1.out.up (belB)) (G2.out.up (belB))).mono ?_
    rintro e w1 ⟨rfl, hb1⟩
    have hz_w1 : w.heap.size + 2 ≤ w1.heap.size := (by have hq := (hb1).size; (try simp at hq); omega); have hc0_w1 := fun o => (bcell hb1).1 (w.heap.size) o (by first | (simp; done) | (simp; omega) | omega); have hc1_w1 := fun o => (bcell hb1).1 (w.heap.size + 1) o (by first | (simp; done) | (simp; omega) | omega)
    go_wp2_with fail
    refine (ref0_EqHeader' hh xA yA xA' yA' xn xc yn yc xn' xc' yn' yc' _ (G3.out.up (belB)) (G4.out.up (belB))).mono ?_
    rintro e w2 ⟨rfl, hb2⟩
    have hz_w2 : w.heap.size + 2 ≤ w2.heap.size := (by have hq := (hb2).size; (try simp at hq); omega); have hc0_w2 := fun o => (bcell hb2).1 (w.heap.size) o (by first | (simp; done) | (simp; omega) | omega); have hc1_w2 := fun o => (bcell hb2).1 (w.heap.size + 1) o (by first | (simp; done) | (simp; omega) | omega)
    go_wp2_with fail
    refine (ref0_EqCert_no cc cc' cA dA sA cA' dA' sA' cn cd dn dc sn sc cn' cd' dn' dc' sn' sc' _ (G5.out.up (belB)) (G6.out.up (belB)) h6).mono ?_
    rintro e w3 ⟨rfl, hb3⟩
    go_wp2_with fail
    go_ret
    exact ⟨rfl, belB⟩
  subst h6
  have h7 : ds ≠ ds' := fun e => h (by rw [e])
  clear h
  go_enter Tryz.func52, Tryz.ntmps52
  go_wp2_with fail
  refine (ref0_EqBatch b bA bn bc bA' bn' bc' _ (G1.out.up (belB)) (G2.out.up (belB))).mono ?_
  rintro e w1 ⟨rfl, hb1⟩
  have hz_w1 : w.heap.size + 2 ≤ w1.heap.size := (by have hq := (hb1).size; (try simp at hq); omega); have hc0_w1 := fun o => (bcell hb1).1 (w.heap.size) o (by first | (simp; done) | (simp; omega) | omega); have hc1_w1 := fun o => (bcell hb1).1 (w.heap.size + 1) o (by first | (simp; done) | (simp; omega) | omega)
  go_wp2_with fail
  refine (ref0_EqHeader' hh xA yA xA' yA' xn xc yn yc xn' xc' yn' yc' _ (G3.out.up (belB)) (G4.out.up (belB))).mono ?_
  rintro e w2 ⟨rfl, hb2⟩
  have hz_w2 : w.heap.size + 2 ≤ w2.heap.size := (by have hq := (hb2).size; (try simp at hq); omega); have hc0_w2 := fun o => (bcell hb2).1 (w.heap.size) o (by first | (simp; done) | (simp; omega) | omega); have hc1_w2 := fun o => (bcell hb2).1 (w.heap.size + 1) o (by first | (simp; done) | (simp; omega) | omega)
  go_wp2_with fail
  refine (ref0_EqCert' cc cA dA sA cA' dA' sA' cn cd dn dc sn sc cn' cd' dn' dc' sn' sc' _ (G5.out.up (belB)) (G6.out.up (belB))).mono ?_
  rintro e w3 ⟨rfl, hb3⟩
  have hz_w3 : w.heap.size + 2 ≤ w3.heap.size := (by have hq := (hb3).size; (try simp at hq); omega); have hc0_w3 := fun o => (bcell hb3).1 (w.heap.size) o (by first | (simp; done) | (simp; omega) | omega); have hc1_w3 := fun o => (bcell hb3).1 (w.heap.size + 1) o (by first | (simp; done) | (simp; omega) | omega)
  go_wp2_with fail
  refine (ref0_EqNumbers_no eA en ec ds eA' en' ec' ds' _ (G7.out.up (belB)) (G8.out.up (belB)) h7).mono ?_
  rintro e w4 ⟨rfl, hb4⟩
  go_wp2_with fail
  go_ret
  exact ⟨rfl, belB⟩
/-- In general. -/
theorem ref0_EqMessageX (P Q : MsgP) (X M : MsgD) (w : World) (hp : MsgR w P X) (hq : MsgR w Q M) (hx : X.b.tx = M.b.tx ∨ X.b.tx = []) :
    Calls Tryz.prog 52 #[M18 P X, M18 Q M] w fun e w' => e = .returned (.bool (dec (X = M))) ∧ Below w.heap.size w w' := by
  by_cases h : X = M
  · subst h
    exact (ref0_EqMessage P Q X w hp hq).mono fun e w' ⟨h1, h2⟩ => ⟨by rw [h1, dec_t rfl], h2⟩
  · exact (ref0_EqMessage_no P Q X M w hp hq hx h).mono fun e w' ⟨h1, h2⟩ => ⟨by rw [h1]; exact ret_bool (dec_false h), h2⟩
end Go.Proofs.YtgfakefcmbpboaaGreat
