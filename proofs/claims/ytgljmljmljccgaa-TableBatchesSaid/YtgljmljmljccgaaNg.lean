/- Tables: a key's value. -/
import Derived.Test.YtgljmljmljccgaaNe
namespace Go.Proofs.Ytgljmljmljccgaa
open Go.RowKit
set_option linter.unusedSimpArgs false
set_option linter.unusedVariables false

set_option maxRecDepth 100000 in
set_option maxHeartbeats 1000000 in
theorem table_pair (A : Option Addr) (n c : Nat) (l : List PairD) (bx : Value) (key : ByteArray) (lo : Nat) (y : Bool) (w : World) (hl : PairsR w A n l) (hP : SortedP l) (hn : n ≤ 1000000000) (hlo : kposP l key = lo) (hy : khasP l key = y) (hbx : bx.oneCell' = true) :
    Calls Try.prog 55 #[.agg #[.slice A n c, bx], .string key] w fun e w' => e = .returned (.tuple #[.int .i64 lo, .bool y]) ∧ Below w.heap.size w w' := by
  have HL := Lib.hid hl
  have HP := Lib.hid hP
  clear hl hP
  go_enter Try.func55, Try.ntmps55
  go_wp2_with fail
  refine (bsf_P A n c l key lo y _ (HL.out.up (by (repeat (first | (with_reducible exact Below.refl _ _) | (with_reducible assumption) | (with_reducible apply bel_alloc) | (with_reducible apply bel_drew) | (with_reducible apply bel_drewN) | (with_reducible refine bel_trans ?_ (by with_reducible assumption)) | (with_reducible refine bel_trans ?_ (HF.out _)) | (with_reducible refine bel_set ?_ (by simp) _) | (with_reducible refine bel_set ?_ (by simp; omega) _) | (with_reducible refine bel_set ?_ (by omega) _))))) HP.out hn hlo hy).mono ?_
  rintro e w1 ⟨rfl, hb1⟩
  go_wp2_with fail
  go_ret2
  exact ⟨rfl, by (repeat (first | (with_reducible exact Below.refl _ _) | (with_reducible assumption) | (with_reducible apply bel_alloc) | (with_reducible apply bel_drew) | (with_reducible apply bel_drewN) | (with_reducible refine bel_trans ?_ (by with_reducible assumption)) | (with_reducible refine bel_trans ?_ (HF.out _)) | (with_reducible refine bel_set ?_ (by simp) _) | (with_reducible refine bel_set ?_ (by simp; omega) _) | (with_reducible refine bel_set ?_ (by omega) _)))⟩
theorem khasP_lt {l : List PairD} {key : ByteArray} {lo : Nat} (hlo : kposP l key = lo) (h : khasP l key = true) : lo < l.length ∧ (pth l lo).k = key := by
  have := dec_iff.1 h; rw [hlo] at this; exact this
theorem khasA_lt {l : List AcctD} {key : Int} {lo : Nat} (hlo : kposA l key = lo) (h : khasA l key = true) : lo < l.length ∧ (ath l lo).se = key := by
  have := dec_iff.1 h; rw [hlo] at this; exact this
/-- What a key has; whether it is there. -/
noncomputable def getB (l : List PairD) (key : ByteArray) : ByteArray := if khasP l key = true then (pth l (kposP l key)).v else ⟨#[]⟩
set_option maxRecDepth 100000 in
set_option maxHeartbeats 1000000 in
theorem ref22_Get (A : Option Addr) (n c : Nat) (l : List PairD) (B : Option Addr) (m d : Nat) (key : ByteArray) (u : ByteArray) (y : Bool) (w : World) (hl : PairsR w A n l) (hu : getB l key = u) (hy : khasP l key = y) :
    Calls Try.prog 16 #[.agg #[.slice A n c, .slice B m d], .string key] w fun e w' => e = .returned (.tuple #[.string u, .bool y]) ∧ Below w.heap.size w w' := by
  have HL := Lib.hid hl
  obtain ⟨lo, hlo⟩ : ∃ lo, kposP l key = lo := ⟨_, rfl⟩
  have HN := Lib.hid hl.1
  have HU := Lib.hid hu
  have HY := Lib.hid hy
  have HLO := Lib.hid hlo
  clear hl hu hy hlo
  cases hh : khasP l key
  · have e1 : y = false ∧ u = ⟨#[]⟩ := by rw [← HY.out, ← HU.out]; simp [getB, hh]
    obtain ⟨rfl, rfl⟩ := e1
    go_enter Try.func16, Try.ntmps16
    go_wp2_with fail
    refine (refs_P A n c l key lo false _ (HL.out.up (by (repeat (first | (with_reducible exact Below.refl _ _) | (with_reducible assumption) | (with_reducible apply bel_alloc) | (with_reducible apply bel_drew) | (with_reducible apply bel_drewN) | (with_reducible refine bel_trans ?_ (by with_reducible assumption)) | (with_reducible refine bel_trans ?_ (HF.out _)) | (with_reducible refine bel_set ?_ (by simp) _) | (with_reducible refine bel_set ?_ (by simp; omega) _) | (with_reducible refine bel_set ?_ (by omega) _))))) HLO.out HY.out).mono ?_
    rintro e w1 ⟨rfl, hb1⟩
    go_wp2_with fail
    go_ret2
    exact ⟨rfl, by (repeat (first | (with_reducible exact Below.refl _ _) | (with_reducible assumption) | (with_reducible apply bel_alloc) | (with_reducible apply bel_drew) | (with_reducible apply bel_drewN) | (with_reducible refine bel_trans ?_ (by with_reducible assumption)) | (with_reducible refine bel_trans ?_ (HF.out _)) | (with_reducible refine bel_set ?_ (by simp) _) | (with_reducible refine bel_set ?_ (by simp; omega) _) | (with_reducible refine bel_set ?_ (by omega) _)))⟩
  · obtain ⟨h1, h2⟩ := khasP_lt HLO.out hh
    have e1 : y = true ∧ u = (pth l lo).v := by rw [← HY.out, ← HU.out]; unfold getB; rw [if_pos hh, HLO.out]; exact ⟨hh, rfl⟩
    obtain ⟨rfl, rfl⟩ := e1
    have hln : lo < n := by rw [← HN.out]; exact h1
    clear h1 h2 hh
    go_enter Try.func16, Try.ntmps16
    go_wp2_with fail
    refine (refs_P A n c l key lo true _ (HL.out.up (by (repeat (first | (with_reducible exact Below.refl _ _) | (with_reducible assumption) | (with_reducible apply bel_alloc) | (with_reducible apply bel_drew) | (with_reducible apply bel_drewN) | (with_reducible refine bel_trans ?_ (by with_reducible assumption)) | (with_reducible refine bel_trans ?_ (HF.out _)) | (with_reducible refine bel_set ?_ (by simp) _) | (with_reducible refine bel_set ?_ (by simp; omega) _) | (with_reducible refine bel_set ?_ (by omega) _))))) HLO.out HY.out).mono ?_
    rintro e w1 ⟨rfl, hb1⟩
    have hz_w1 : w.heap.size + 1 ≤ w1.heap.size := (by have hq := (hb1).size; (try simp at hq); omega); have hc0_w1 := fun o => (bcell hb1).1 (w.heap.size) o (by first | (simp; done) | (simp; omega) | omega)
    have hbw1 : Below w.heap.size w w1 := by (repeat (first | (with_reducible exact Below.refl _ _) | (with_reducible assumption) | (with_reducible apply bel_alloc) | (with_reducible apply bel_drew) | (with_reducible apply bel_drewN) | (with_reducible refine bel_trans ?_ (by with_reducible assumption)) | (with_reducible refine bel_trans ?_ (HF.out _)) | (with_reducible refine bel_set ?_ (by simp) _) | (with_reducible refine bel_set ?_ (by simp; omega) _) | (with_reducible refine bel_set ?_ (by omega) _)))
    obtain ⟨b, off, rfl, hb, hc⟩ := (HL.out.up hbw1).at (by omega)
    obtain ⟨c0, c1⟩ := hc lo hln
    clear hc
    go_wp2_with fail
    go_ret2
    exact ⟨rfl, hbw1⟩
noncomputable def tgB (l : List PairD) (q : List AcctD) (key : ByteArray) : ByteArray := if mayT l q = true then getB l key else ⟨#[]⟩
noncomputable def tgE (l : List PairD) (q : List AcctD) (key : ByteArray) : Int := if mayT l q = true then (if khasP l key = true then 0 else 3) else 1
set_option maxRecDepth 100000 in
set_option maxHeartbeats 1000000 in
theorem table_Get (A : Option Addr) (n c : Nat) (l : List PairD) (B : Option Addr) (m d : Nat) (q : List AcctD) (key : ByteArray) (u : ByteArray) (y : Int) (w : World) (hl : PairsR w A n l) (hq : AcctsR w B m q) (hu : tgB l q key = u) (hy : tgE l q key = y) :
    Calls Try.prog 17 #[.agg #[.slice A n c, .slice B m d], .string key] w fun e w' => e = .returned (.tuple #[.string u, .int .i64 y]) ∧ Below w.heap.size w w' := by
  have HL := Lib.hid hl
  have HQ := Lib.hid hq
  obtain ⟨lo, hlo⟩ : ∃ lo, kposP l key = lo := ⟨_, rfl⟩
  have HN := Lib.hid hl.1
  have HU := Lib.hid hu
  have HY := Lib.hid hy
  have HLO := Lib.hid hlo
  clear hl hu hy hlo hq
  cases hm : mayT l q
  · have e1 : y = 1 ∧ u = ⟨#[]⟩ := by rw [← HY.out, ← HU.out]; simp [tgB, tgE, hm]
    obtain ⟨rfl, rfl⟩ := e1
    have HM := Lib.hid hm
    clear hm
    go_enter Try.func17, Try.ntmps17
    go_wp2_with fail
    refine (table_May A n c l B m d q false _ (HL.out.up (by (repeat (first | (with_reducible exact Below.refl _ _) | (with_reducible assumption) | (with_reducible apply bel_alloc) | (with_reducible apply bel_drew) | (with_reducible apply bel_drewN) | (with_reducible refine bel_trans ?_ (by with_reducible assumption)) | (with_reducible refine bel_trans ?_ (HF.out _)) | (with_reducible refine bel_set ?_ (by simp) _) | (with_reducible refine bel_set ?_ (by simp; omega) _) | (with_reducible refine bel_set ?_ (by omega) _))))) (HQ.out.up (by (repeat (first | (with_reducible exact Below.refl _ _) | (with_reducible assumption) | (with_reducible apply bel_alloc) | (with_reducible apply bel_drew) | (with_reducible apply bel_drewN) | (with_reducible refine bel_trans ?_ (by with_reducible assumption)) | (with_reducible refine bel_trans ?_ (HF.out _)) | (with_reducible refine bel_set ?_ (by simp) _) | (with_reducible refine bel_set ?_ (by simp; omega) _) | (with_reducible refine bel_set ?_ (by omega) _))))) HM.out).mono ?_
    rintro e w1 ⟨rfl, hb1⟩
    go_wp2_with fail
    go_ret2
    exact ⟨rfl, by (repeat (first | (with_reducible exact Below.refl _ _) | (with_reducible assumption) | (with_reducible apply bel_alloc) | (with_reducible apply bel_drew) | (with_reducible apply bel_drewN) | (with_reducible refine bel_trans ?_ (by with_reducible assumption)) | (with_reducible refine bel_trans ?_ (HF.out _)) | (with_reducible refine bel_set ?_ (by simp) _) | (with_reducible refine bel_set ?_ (by simp; omega) _) | (with_reducible refine bel_set ?_ (by omega) _)))⟩
  · have HM := Lib.hid hm
    have hs := (mayT_iff.1 hm).1.sorted
    have hn : n ≤ 1000000000 := by have := (mayT_iff.1 hm).1.1; rw [HN.out] at this; omega
    have HS := Lib.hid hs
    clear hs
    cases hh : khasP l key
    · have e1 : y = 3 ∧ u = ⟨#[]⟩ := by rw [← HY.out, ← HU.out]; simp [tgB, tgE, getB, hm, hh]
      obtain ⟨rfl, rfl⟩ := e1
      have HH := Lib.hid hh
      clear hm hh
      go_enter Try.func17, Try.ntmps17
      go_wp2_with fail
      refine (table_May A n c l B m d q true _ (HL.out.up (by (repeat (first | (with_reducible exact Below.refl _ _) | (with_reducible assumption) | (with_reducible apply bel_alloc) | (with_reducible apply bel_drew) | (with_reducible apply bel_drewN) | (with_reducible refine bel_trans ?_ (by with_reducible assumption)) | (with_reducible refine bel_trans ?_ (HF.out _)) | (with_reducible refine bel_set ?_ (by simp) _) | (with_reducible refine bel_set ?_ (by simp; omega) _) | (with_reducible refine bel_set ?_ (by omega) _))))) (HQ.out.up (by (repeat (first | (with_reducible exact Below.refl _ _) | (with_reducible assumption) | (with_reducible apply bel_alloc) | (with_reducible apply bel_drew) | (with_reducible apply bel_drewN) | (with_reducible refine bel_trans ?_ (by with_reducible assumption)) | (with_reducible refine bel_trans ?_ (HF.out _)) | (with_reducible refine bel_set ?_ (by simp) _) | (with_reducible refine bel_set ?_ (by simp; omega) _) | (with_reducible refine bel_set ?_ (by omega) _))))) HM.out).mono ?_
      rintro e w1 ⟨rfl, hb1⟩
      have hz_w1 : w.heap.size + 1 ≤ w1.heap.size := (by have hq := (hb1).size; (try simp at hq); omega); have hc0_w1 := fun o => (bcell hb1).1 (w.heap.size) o (by first | (simp; done) | (simp; omega) | omega)
      go_wp2_with fail
      refine (table_pair A n c l _ key lo false _ (HL.out.up (by (repeat (first | (with_reducible exact Below.refl _ _) | (with_reducible assumption) | (with_reducible apply bel_alloc) | (with_reducible apply bel_drew) | (with_reducible apply bel_drewN) | (with_reducible refine bel_trans ?_ (by with_reducible assumption)) | (with_reducible refine bel_trans ?_ (HF.out _)) | (with_reducible refine bel_set ?_ (by simp) _) | (with_reducible refine bel_set ?_ (by simp; omega) _) | (with_reducible refine bel_set ?_ (by omega) _))))) HS.out hn HLO.out HH.out rfl).mono ?_
      rintro e w2 ⟨rfl, hb2⟩
      go_wp2_with fail
      go_ret2
      exact ⟨rfl, by (repeat (first | (with_reducible exact Below.refl _ _) | (with_reducible assumption) | (with_reducible apply bel_alloc) | (with_reducible apply bel_drew) | (with_reducible apply bel_drewN) | (with_reducible refine bel_trans ?_ (by with_reducible assumption)) | (with_reducible refine bel_trans ?_ (HF.out _)) | (with_reducible refine bel_set ?_ (by simp) _) | (with_reducible refine bel_set ?_ (by simp; omega) _) | (with_reducible refine bel_set ?_ (by omega) _)))⟩
    · obtain ⟨h1, h2⟩ := khasP_lt HLO.out hh
      have e1 : y = 0 ∧ u = (pth l lo).v := by rw [← HY.out, ← HU.out]; unfold tgB tgE getB; rw [if_pos hm, if_pos hm, if_pos hh, if_pos hh, HLO.out]; exact ⟨rfl, rfl⟩
      obtain ⟨rfl, rfl⟩ := e1
      have hln : lo < n := by rw [← HN.out]; exact h1
      have HH := Lib.hid hh
      clear hm hh h1 h2
      go_enter Try.func17, Try.ntmps17
      go_wp2_with fail
      refine (table_May A n c l B m d q true _ (HL.out.up (by (repeat (first | (with_reducible exact Below.refl _ _) | (with_reducible assumption) | (with_reducible apply bel_alloc) | (with_reducible apply bel_drew) | (with_reducible apply bel_drewN) | (with_reducible refine bel_trans ?_ (by with_reducible assumption)) | (with_reducible refine bel_trans ?_ (HF.out _)) | (with_reducible refine bel_set ?_ (by simp) _) | (with_reducible refine bel_set ?_ (by simp; omega) _) | (with_reducible refine bel_set ?_ (by omega) _))))) (HQ.out.up (by (repeat (first | (with_reducible exact Below.refl _ _) | (with_reducible assumption) | (with_reducible apply bel_alloc) | (with_reducible apply bel_drew) | (with_reducible apply bel_drewN) | (with_reducible refine bel_trans ?_ (by with_reducible assumption)) | (with_reducible refine bel_trans ?_ (HF.out _)) | (with_reducible refine bel_set ?_ (by simp) _) | (with_reducible refine bel_set ?_ (by simp; omega) _) | (with_reducible refine bel_set ?_ (by omega) _))))) HM.out).mono ?_
      rintro e w1 ⟨rfl, hb1⟩
      have hz_w1 : w.heap.size + 1 ≤ w1.heap.size := (by have hq := (hb1).size; (try simp at hq); omega); have hc0_w1 := fun o => (bcell hb1).1 (w.heap.size) o (by first | (simp; done) | (simp; omega) | omega)
      go_wp2_with fail
      refine (table_pair A n c l _ key lo true _ (HL.out.up (by (repeat (first | (with_reducible exact Below.refl _ _) | (with_reducible assumption) | (with_reducible apply bel_alloc) | (with_reducible apply bel_drew) | (with_reducible apply bel_drewN) | (with_reducible refine bel_trans ?_ (by with_reducible assumption)) | (with_reducible refine bel_trans ?_ (HF.out _)) | (with_reducible refine bel_set ?_ (by simp) _) | (with_reducible refine bel_set ?_ (by simp; omega) _) | (with_reducible refine bel_set ?_ (by omega) _))))) HS.out hn HLO.out HH.out rfl).mono ?_
      rintro e w2 ⟨rfl, hb2⟩
      have hz_w2 : w.heap.size + 1 ≤ w2.heap.size := (by have hq := (hb2).size; (try simp at hq); omega); have hc0_w2 := fun o => (bcell hb2).1 (w.heap.size) o (by first | (simp; done) | (simp; omega) | omega)
      have hbw2 : Below w.heap.size w w2 := by (repeat (first | (with_reducible exact Below.refl _ _) | (with_reducible assumption) | (with_reducible apply bel_alloc) | (with_reducible apply bel_drew) | (with_reducible apply bel_drewN) | (with_reducible refine bel_trans ?_ (by with_reducible assumption)) | (with_reducible refine bel_trans ?_ (HF.out _)) | (with_reducible refine bel_set ?_ (by simp) _) | (with_reducible refine bel_set ?_ (by simp; omega) _) | (with_reducible refine bel_set ?_ (by omega) _)))
      obtain ⟨b, off, rfl, hb, hc⟩ := (HL.out.up hbw2).at (by omega)
      obtain ⟨c0, c1⟩ := hc lo hln
      clear hc
      go_wp2_with fail
      go_ret2
      exact ⟨rfl, hbw2⟩
end Go.Proofs.Ytgljmljmljccgaa
