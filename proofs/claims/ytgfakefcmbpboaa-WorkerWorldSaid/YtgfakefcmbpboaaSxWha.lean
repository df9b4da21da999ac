/- step.ack where nothing is noted. -/
import Derived.Test.YtgfakefcmbpboaaSxWgz
namespace Go.Proofs.Ytgfakefcmbpboaa
open Go.RowKit
set_option linter.unusedSimpArgs false
set_option linter.unusedVariables false

theorem khasW_lt7 {l : List WaitD} {key : Int} {lo : Nat} (hlo : kposW l key = lo) (h : khasW l key = true) : lo < l.length ∧ (wth l lo).di = key := by
  subst hlo; exact dec_iff.1 h
set_option maxRecDepth 100000 in
set_option maxHeartbeats 4000000 in
theorem step_ack_no (gs : Nat) (c0 c1 c2 c3 c4 c5 c7 c8 c9 : Value) (tA : Option Addr) (tn tc : Nat) (wa : List WaitD) (who d : Int) (w : World) (hg : Blk w gs 97 [c0, c1, c2, c3, c4, c5, .slice tA tn tc, c7, c8, c9]) (hW : WaitsR w tA tn wa) (hP : SortedW wa) (hbig : BigW wa) (hris : ∀ x ∈ wa, Rises x.ak) (hak : ∀ x ∈ wa, x.ak.length ≤ 1000000) (hn : khasW wa d = false ∨ khasW wa d = true ∧ memS (wth wa (kposW wa d)).ak who = true) :
    Calls Try.prog 60 #[.pointer (some ⟨gs, 0, none⟩), .int .i64 who, .int .i64 d] w fun e w' => e = .returned (.tuple #[]) ∧ Below w.heap.size w w' := by
  obtain ⟨lo, hlo⟩ : ∃ lo, kposW wa d = lo := ⟨_, rfl⟩
  rw [hlo] at hn
  have HW := Lib.hid hW
  have HP := Lib.hid hP
  have HLO := Lib.hid hlo
  have HRS := Lib.hid hris
  have HAK := Lib.hid hak
  have htn : tn ≤ 800000000 := by rw [← hW.1]; exact hbig.1
  have hgl := hg.lt
  have g6 := hg.box.2 6 _ rfl
  clear hg hW hP hlo hris hbig hak
  rcases hn with hy | ⟨hy, hm⟩
  · have HY := Lib.hid hy
    clear hy
    go_enter Try.func60, Try.ntmps60
    go_wp2_with (go_at_call 52; refine (worker_wait tA tn tc wa d lo false _ HW.out HP.out (by omega) HLO.out HY.out).mono ?_; rintro e w1 ⟨rfl, hb1⟩)
    exact bodyPost_ret (v := .tuple #[]) (by simp [results, Try.results60, go_sem]) rfl ⟨rfl, hb1⟩
  · obtain ⟨hlt, _⟩ := khasW_lt7 HLO.out hy
    have HY := Lib.hid hy
    have HM := Lib.hid hm
    have hltn : lo < tn := by rw [← HW.out.1]; exact hlt
    obtain ⟨b, off, e1, hb, hc⟩ := HW.out.2.2 (by omega)
    obtain ⟨nA, nn, nc, ⟨f0, f1⟩, hNT⟩ := hc lo hltn
    have HNT := Lib.hid hNT
    have HF := Lib.hid (And.intro f0 f1)
    have hrs := HRS.out _ (getD_mem hlt)
    have HR := Lib.hid hrs
    have hnn : nn ≤ 1000000 := by rw [← hNT.1]; exact HAK.out _ (getD_mem hlt)
    subst e1
    clear hy hm hc f0 f1 hNT hrs hlt
    go_enter Try.func60, Try.ntmps60
    go_upto_region 2 with (go_at_call 52; refine (worker_wait (some ⟨b, off, none⟩) tn tc wa d lo true _ HW.out HP.out (by omega) HLO.out HY.out).mono ?_; rintro e w1 ⟨rfl, hb1⟩)
    have q0 := (hb1.cell (p := ⟨b, off + lo * 2, none⟩) hb).trans HF.out.1
    have q1 := (hb1.cell (p := ⟨b, off + lo * 2 + 1, none⟩) hb).trans HF.out.2
    have g61 := (hb1.cell (p := ⟨gs, 6, none⟩) hgl).trans g6
    have hgl1 : gs < w1.heap.size := Nat.lt_of_lt_of_le hgl hb1.size
    have hbl : b < w1.heap.size := Nat.lt_of_lt_of_le hb hb1.size
    clear g6 hgl
    go_wp2_with (go_at_call 82; refine (slices_BinarySearch nA nn nc (wth wa lo).ak who _ (HNT.out.up (bel_trans hb1 (by (repeat (first | (with_reducible exact Below.refl _ _) | (with_reducible assumption) | (with_reducible apply bel_alloc) | (with_reducible apply bel_drew) | (with_reducible apply bel_drewN) | (with_reducible refine bel_trans ?_ (by with_reducible assumption)) | (with_reducible refine bel_trans ?_ (HF.out _)) | (with_reducible refine bel_set ?_ (by simp) _) | (with_reducible refine bel_set ?_ (by simp; omega) _) | (with_reducible refine bel_set ?_ (by omega) _)))))) HR.out (by omega)).mono ?_; rintro e w2 ⟨k, rfl, -, -, -, hb2⟩; rw [HM.out])
    go_end0
    exact ⟨rfl, bel_trans hb1 (bel_trans (by (repeat (first | (with_reducible exact Below.refl _ _) | (with_reducible assumption) | (with_reducible apply bel_alloc) | (with_reducible apply bel_drew) | (with_reducible apply bel_drewN) | (with_reducible refine bel_trans ?_ (by with_reducible assumption)) | (with_reducible refine bel_trans ?_ (HF.out _)) | (with_reducible refine bel_set ?_ (by simp) _) | (with_reducible refine bel_set ?_ (by simp; omega) _) | (with_reducible refine bel_set ?_ (by omega) _)))) hb2)⟩
end Go.Proofs.Ytgfakefcmbpboaa
