/- Exec at the reference: copies, the same, Push. -/
import Derived.Test.YtbakkpabiknlmaaSzEf
namespace Go.Proofs.Ytbakkpabiknlmaa
open Go.RowKit
set_option linter.unusedSimpArgs false
set_option linter.unusedVariables false

set_option maxRecDepth 100000 in
set_option maxHeartbeats 4000000 in
theorem ref0_CopyExec (pA qA sA : Option Addr) (pn pc qn qc sn sc : Nat) (p : List PairD) (q : List AcctD) (s : List Int) (c : Int) (w : World) (hp : PairsR w pA pn p) (hq : AcctsR w qA qn q) (hs : IntsR w sA sn s) (h1 : pn ≤ 800000000) (h2 : qn ≤ 800000000) (h3 : sn ≤ 800000000) :
    Calls Try.prog 6 #[.agg #[.slice pA pn pc, .slice qA qn qc, .slice sA sn sc, .int .i64 c]] w fun e w' => ∃ vp va vs, e = .returned (.agg #[vp, va, vs, .int .i64 c]) ∧ ExO w' w.heap.size vp va vs p q s ∧ Below w.heap.size w w' := by
  have HP := Lib.hid hp
  have HQ := Lib.hid hq
  have HS := Lib.hid hs
  clear hp hq hs
  go_enter Try.func6, Try.ntmps6
  go_wp2_with fail
  refine (ref0_CopyTable pA pn pc p qA qn qc q _ (HP.out.up (by (repeat (first | (with_reducible exact Below.refl _ _) | (with_reducible assumption) | (with_reducible apply bel_alloc) | (with_reducible apply bel_drew) | (with_reducible apply bel_drewN) | (with_reducible refine bel_trans ?_ (by with_reducible assumption)) | (with_reducible refine bel_trans ?_ (HF.out _)) | ((with_reducible refine bel_set3 ?_ ?_); rotate_left; omega))))) (HQ.out.up (by (repeat (first | (with_reducible exact Below.refl _ _) | (with_reducible assumption) | (with_reducible apply bel_alloc) | (with_reducible apply bel_drew) | (with_reducible apply bel_drewN) | (with_reducible refine bel_trans ?_ (by with_reducible assumption)) | (with_reducible refine bel_trans ?_ (HF.out _)) | ((with_reducible refine bel_set3 ?_ ?_); rotate_left; omega))))) h1 h2).mono ?_
  rintro e w1 ⟨vp, va, rfl, hp1, ha1, hd1, hb1⟩
  obtain ⟨Ap, cp, rfl, _⟩ := nmP hp1 HP.out.1 (by omega)
  obtain ⟨Aa, ca, rfl, _⟩ := nmA ha1 HQ.out.1 (by omega)
  have HP1 := Lib.hid hp1
  have HA1 := Lib.hid ha1
  clear hp1 ha1
  have hz_w1 : w.heap.size + 3 ≤ w1.heap.size := (by have hq := (hb1).size; (try simp at hq); omega); have hc0_w1 := fun o => (bcell hb1).1 (w.heap.size) o (by first | (simp; done) | (simp; omega) | omega); have hc1_w1 := fun o => (bcell hb1).1 (w.heap.size + 1) o (by first | (simp; done) | (simp; omega) | omega); have hc2_w1 := fun o => (bcell hb1).1 (w.heap.size + 2) o (by first | (simp; done) | (simp; omega) | omega); have hf0_w1 := fun o => (bcell hb1).2 (w.heap.size) o (by first | (simp; done) | (simp; omega) | omega); have hf1_w1 := fun o => (bcell hb1).2 (w.heap.size + 1) o (by first | (simp; done) | (simp; omega) | omega); have hf2_w1 := fun o => (bcell hb1).2 (w.heap.size + 2) o (by first | (simp; done) | (simp; omega) | omega)
  go_wp2_with fail
  refine (ref0_CopyNumbers sA sn sc s _ (HS.out.up (by (repeat (first | (with_reducible exact Below.refl _ _) | (with_reducible assumption) | (with_reducible apply bel_alloc) | (with_reducible apply bel_drew) | (with_reducible apply bel_drewN) | (with_reducible refine bel_trans ?_ (by with_reducible assumption)) | (with_reducible refine bel_trans ?_ (HF.out _)) | ((with_reducible refine bel_set3 ?_ ?_); rotate_left; omega))))) (by omega)).mono ?_
  rintro e w2 ⟨vs, rfl, hs2, hb2⟩
  obtain ⟨As, cs, rfl, _⟩ := nmI hs2 HS.out.1 (by omega)
  have HS2 := Lib.hid hs2
  clear hs2
  have hz_w2 : w.heap.size + 3 ≤ w2.heap.size := (by have hq := (hb2).size; (try simp at hq); omega); have hc0_w2 := fun o => (bcell hb2).1 (w.heap.size) o (by first | (simp; done) | (simp; omega) | omega); have hc1_w2 := fun o => (bcell hb2).1 (w.heap.size + 1) o (by first | (simp; done) | (simp; omega) | omega); have hc2_w2 := fun o => (bcell hb2).1 (w.heap.size + 2) o (by first | (simp; done) | (simp; omega) | omega); have hf0_w2 := fun o => (bcell hb2).2 (w.heap.size) o (by first | (simp; done) | (simp; omega) | omega); have hf1_w2 := fun o => (bcell hb2).2 (w.heap.size + 1) o (by first | (simp; done) | (simp; omega) | omega); have hf2_w2 := fun o => (bcell hb2).2 (w.heap.size + 2) o (by first | (simp; done) | (simp; omega) | omega)
  have hP2 : OwnP w2 (w.heap.size + 3) (.slice Ap pn cp) p := OwnP.up (OwnP.set3 (OwnP.set3 (OwnP.mono HP1.out (by simp)) (by omega) _) (by omega) _) hb2
  have hA2 : OwnA w2 (w.heap.size + 3) (.slice Aa qn ca) q := OwnA.up (OwnA.set3 (OwnA.set3 (OwnA.mono HA1.out (by simp)) (by omega) _) (by omega) _) hb2
  have hE : ExO w2 (w.heap.size + 3) (.slice Ap pn cp) (.slice Aa qn ca) (.slice As sn cs) p q s :=
    { p := hP2, a := hA2, s := OwnI.mono HS2.out (by simp; omega), pa := hd1, ps := disj_later HP1.out HS2.out (by simp), qs := disj_later HA1.out HS2.out (by simp) }
  have HE := Lib.hid hE
  clear hP2 hA2 hE HP1 HA1 HS2
  go_wp2_with fail
  refine bodyPost_ret (v := .agg #[.slice Ap pn cp, .slice Aa qn ca, .slice As sn cs, .int .i64 c]) (by simp [results, Try.results6, go_sem, hc0_w1, hc1_w1, hc2_w1, hc0_w2, hc1_w2, hc2_w2]) rfl ⟨_, _, _, rfl, ?_, by (repeat (first | (with_reducible exact Below.refl _ _) | (with_reducible assumption) | (with_reducible apply bel_alloc) | (with_reducible apply bel_drew) | (with_reducible apply bel_drewN) | (with_reducible refine bel_trans ?_ (by with_reducible assumption)) | (with_reducible refine bel_trans ?_ (HF.out _)) | ((with_reducible refine bel_set3 ?_ ?_); rotate_left; omega)))⟩
  exact (((((HE.out.set (by omega) _).set (by omega) _).set (by omega) _).set (by omega) _).set (by omega) _).mono (by omega)
end Go.Proofs.Ytbakkpabiknlmaa
