/- A batch more that is held, at the program: step.hold. -/
import Derived.Test.YtgfakefcmbpboaaSxWp
import Derived.Deep.RegionWith
namespace Go.Proofs.Ytgfakefcmbpboaa
open Go.RowKit
set_option linter.unusedSimpArgs false
set_option linter.unusedVariables false

def holdD (D : WorkD) (d : Int) (b : BatchD) : WorkD := { D with he := insAt D.he (kposH D.he d) ⟨d, b⟩ }
set_option maxRecDepth 100000 in
set_option maxHeartbeats 8000000 in
theorem step_hold (g B : Nat) (oA tA eA rA uA bA : Option Addr) (on oc tn tc en ec rn rc un uc bn bc : Nat) (D : WorkD) (d : Int) (b : BatchD) (w : World) (hg : Blk w g 97 [.int .i64 D.id, .int .i64 D.nodes, .int .i64 D.next, .slice oA on oc, .int .i64 D.age, .int .i64 D.clock, .slice tA tn tc, .slice eA en ec, .slice rA rn rc, .slice uA un uc]) (hB : B ≤ w.heap.size) (hh : OwnHs w B (.slice eA en ec) D.he) (hs : BigH D.he) (hP : SortedH D.he) (hb : TxsR w bA bn b.tx) (hbn : bn ≤ 800000000) :
    Calls Try.prog 51 #[.pointer (some ⟨g, 0, none⟩), .int .i64 d, .agg #[.int .i64 b.au, .int .i64 b.n, .slice bA bn bc]] w fun e w' => ∃ X A n c, e = .returned (.tuple #[]) ∧ w' = X.setCell ⟨g, 7, none⟩ (.slice A n c) ∧ Below w.heap.size w X ∧ OwnHs X B (.slice A n c) (insAt D.he (kposH D.he d) ⟨d, b⟩) := by
  obtain ⟨lo, hlo⟩ : ∃ lo, kposH D.he d = lo := ⟨_, rfl⟩
  obtain ⟨y, hy⟩ : ∃ y, khasH D.he d = y := ⟨_, rfl⟩
  obtain ⟨ps, hT⟩ := hh
  obtain ⟨A', c', e', hR, _⟩ := OwnHs.helds ⟨ps, hT⟩ hs
  injection e' with e1 e2 e3
  rw [← e1, ← e2] at hR
  clear e1 e3
  have HEN : Hid (D.he.length = en) := Lib.hid e2.symm
  clear e2
  have HP := Lib.hid hP
  have HB := Lib.hid hb
  have HG := Lib.hid hg
  have HR := Lib.hid hR
  have HT := Lib.hid hT
  have HS := Lib.hid hs
  have HLO := Lib.hid hlo
  have HY := Lib.hid hy
  have henb : en ≤ 800000000 := by rw [← HEN.out]; exact hs.1
  have hglt : g < w.heap.size := hg.lt
  have hfg := hg.frozen
  have a_0 := (hg.box).2 0 _ rfl; have a_1 := (hg.box).2 1 _ rfl; have a_2 := (hg.box).2 2 _ rfl; have a_3 := (hg.box).2 3 _ rfl; have a_4 := (hg.box).2 4 _ rfl; have a_5 := (hg.box).2 5 _ rfl; have a_6 := (hg.box).2 6 _ rfl; have a_7 := (hg.box).2 7 _ rfl; have a_8 := (hg.box).2 8 _ rfl; have a_9 := (hg.box).2 9 _ rfl
  clear hg hP hb hR hT hs hlo hy
  go_enter Try.func51, Try.ntmps51
  go_wp2_with fail
  refine (worker_At eA en ec D.he d lo y _ (by have := HR.out.up (w' := w.alloc (.cells #[.int .i64 b.au, .int .i64 b.n, .slice bA bn bc] 40)) (belA); exact this) HP.out (by omega) HLO.out HY.out).mono ?_
  rintro e w1 ⟨rfl, hb1⟩
  have hX2 : Blk w1 w.heap.size 40 [.int .i64 b.au, .int .i64 b.n, .slice bA bn bc] := (Blk.new w 40 [.int .i64 b.au, .int .i64 b.n, .slice bA bn bc]).up hb1
  have hbw1 : Below w.heap.size w w1 := belA
  have hX1 := HG.out.up hbw1
  have hz1 : w.heap.size + 1 ≤ w1.heap.size := by have := hX2.lt; omega
  have hf1 := hX1.frozen
  have hRV : RowV w eA en 4 (dcells dHeld D.he ps) := by
    obtain ⟨A2, c2, e2, hrv, _⟩ := own_row HT.out.1 (by omega)
    injection e2 with e3 e4 e5
    rw [HEN.out] at hrv
    rw [e3]; exact hrv
  have HRV := Lib.hid hRV
  have HBN : Hid (b.tx.length = bn) := Lib.hid HB.out.1
  have hlole : lo ≤ en := by
    have : kposH D.he d ≤ D.he.length := cnt_le _ _
    rw [HLO.out, HEN.out] at this; exact this
  clear hRV a_0 a_1 a_2 a_3 a_4 a_5 a_6 a_7 a_8 a_9 hb1
  have a_0 := (hX1.box).2 0 _ rfl; have a_1 := (hX1.box).2 1 _ rfl; have a_2 := (hX1.box).2 2 _ rfl; have a_3 := (hX1.box).2 3 _ rfl; have a_4 := (hX1.box).2 4 _ rfl; have a_5 := (hX1.box).2 5 _ rfl; have a_6 := (hX1.box).2 6 _ rfl; have a_7 := (hX1.box).2 7 _ rfl; have a_8 := (hX1.box).2 8 _ rfl; have a_9 := (hX1.box).2 9 _ rfl
  have b_0 := (hX2.box).2 0 _ rfl; have b_1 := (hX2.box).2 1 _ rfl; have b_2 := (hX2.box).2 2 _ rfl
  have HX1 := Lib.hid hX1
  clear hX1 hX2
  have hglt1 : g < w1.heap.size := by omega
  go_upto_region 2 with fail
  go_region_with (first
    | (go_at_call 71; refine (slices_Clone_Held eA en ec (dcells dHeld D.he ps) _ (HRV.out.up (belB)) HT.out.one (by omega)).mono ?_; rintro e wh ⟨vh, rfl, hrow, hbH⟩; obtain ⟨Ah, ch, rfl, _⟩ := own_row hrow (by omega); have hz_wh : w.heap.size + 1 ≤ wh.heap.size := (by have hq := (hbH).size; (try simp at hq); omega); have hc0_wh := fun o => (bcell hbH).1 (g) o (by first | (simp; done) | (simp; omega) | omega); have hc1_wh := fun o => (bcell hbH).1 (w.heap.size) o (by first | (simp; done) | (simp; omega) | omega); have hf0_wh := fun o => (bcell hbH).2 (g) o (by first | (simp; done) | (simp; omega) | omega); have hf1_wh := fun o => (bcell hbH).2 (w.heap.size) o (by first | (simp; done) | (simp; omega) | omega); have HROW := Lib.hid hrow; clear hrow)
    | (go_at_call 61; refine (batch_Own b bA bn bc _ (HB.out.up (belB)) hbn).mono ?_; rintro e wo ⟨vo, rfl, ho, hbO⟩; obtain ⟨Ao, co, rfl, _⟩ := ho.txs (by rw [HBN.out]; omega); rw [HBN.out] at ho ⊢; have hz_wo : w.heap.size + 1 ≤ wo.heap.size := (by have hq := (hbO).size; (try simp at hq); omega); have hc0_wo := fun o => (bcell hbO).1 (g) o (by first | (simp; done) | (simp; omega) | omega); have hc1_wo := fun o => (bcell hbO).1 (w.heap.size) o (by first | (simp; done) | (simp; omega) | omega); have hf0_wo := fun o => (bcell hbO).2 (g) o (by first | (simp; done) | (simp; omega) | omega); have hf1_wo := fun o => (bcell hbO).2 (w.heap.size) o (by first | (simp; done) | (simp; omega) | omega); have HO := Lib.hid ho; clear ho)
    | (go_at_call 70; refine (slices_Insert_Held _ w.heap.size (.slice Ah en ch) en lo (dcells dHeld D.he ps) [.int .i64 d, .int .i64 b.au, .int .i64 b.n, .slice Ao bn co] _ (own_mono (own_up HROW.out (belB)) (by first | omega | (simp; omega))) hlole (by omega) (by first | exact Blk.new _ _ _ | exact (Blk.new _ _ _).up (belB)) (fun hq => by (have hq2 := own_lt HROW.out _ hq); (have hq3 := hbO.size); (have hq4 := hbH.size); (simp at hq2 hq3 hq4); omega) HT.out.one (by simp [Value.oneCell']) rfl (by first | omega | (simp; omega))).mono ?_; rintro e wi ⟨vi, rfl, howi, hbI, hgI, -⟩; obtain ⟨Ai, ci, rfl, _⟩ := own_row howi (by omega); have hOT := OwnT.ins (T := dHeld) (x := ⟨d, b⟩) (p := .slice Ao bn co) (i := lo) (B := B) ⟨(by rw [HEN.out]; exact own_mono (own_up HROW.out (belB)) (by first | omega | (simp; omega))), HT.out.2.1, fun j hj => ((HT.out.2.2 j hj).up (belB))⟩ (by rw [HEN.out]; exact hlole) (by show OwnX _ _ _ _; exact (HO.out.up (belB)).mono (by first | omega | (simp; omega))) (by rw [HEN.out]; exact own_mono howi hB) hgI; have HOT := Lib.hid hOT; have hbW : Below w.heap.size w wi := Below.trans (belB) hbI; have hXI := HG.out.below hbW hglt; have hfI := hXI.frozen; have hlI := hXI.lt; have i_0 := (hXI.box).2 0 _ rfl; have i_1 := (hXI.box).2 1 _ rfl; have i_2 := (hXI.box).2 2 _ rfl; have i_3 := (hXI.box).2 3 _ rfl; have i_4 := (hXI.box).2 4 _ rfl; have i_5 := (hXI.box).2 5 _ rfl; have i_6 := (hXI.box).2 6 _ rfl; have i_7 := (hXI.box).2 7 _ rfl; have i_8 := (hXI.box).2 8 _ rfl; have i_9 := (hXI.box).2 9 _ rfl; have HXI := Lib.hid hXI; clear hOT howi hgI hXI hbI))
  all_goals
    go_end0
    exact ⟨wi, Ai, en + 1, ci, rfl, rfl, hbW, (by rw [HLO.out]; exact ⟨_, HOT.out⟩)⟩
end Go.Proofs.Ytgfakefcmbpboaa
