/- The law TableNumbers. -/
import Derived.Test.YtffoglofijffpaaNt
namespace Go.Proofs.Ytffoglofijffpaa
open Go.RowKit
set_option linter.unusedSimpArgs false
set_option linter.unusedVariables false

def nbK : ByteArray := ⟨#[107]⟩
def nbQ0 : List AcctD := [⟨1, 1099511627775⟩]
def nbX1 : TxD := ⟨1, 1099511627776, ⟨#[107]⟩, ⟨#[118]⟩⟩
def nbX2 : TxD := ⟨1, 1099511627777, ⟨#[107]⟩, ⟨#[119]⟩⟩
def nbX3 : TxD := ⟨2, 1, ⟨#[107]⟩, ⟨#[]⟩⟩
def nbL1 : List PairD := [⟨⟨#[107]⟩, ⟨#[118]⟩⟩]
def nbQ1 : List AcctD := [⟨1, 1099511627776⟩]
def nbL2 : List PairD := []
def nbQ2 : List AcctD := [⟨1, 1099511627776⟩, ⟨2, 1⟩]
theorem nb_may0 : MayT [] nbQ0 := ⟨MayT.nil.1, by simp [nbQ0], fun j hj => by
  have : j = 0 := by simpa [nbQ0] using hj
  subst this
  exact ⟨by decide, fun h => absurd h (by omega)⟩⟩
theorem nb_pos0 : kposA nbQ0 1 = 0 := by simp [kposA, nbQ0, cnt, ltI]
theorem nb_has0 : khasA nbQ0 1 = true := (dec_true (by rw [nb_pos0]; exact ⟨by simp [nbQ0], rfl⟩)).symm
theorem nb_ok1 : okT [] nbQ0 nbX1 = true := okT_iff.2 ⟨by decide, by show nbX1.sq = lastA nbQ0 1 + 1; unfold lastA; rw [if_pos nb_has0, nb_pos0]; rfl, fun h => by simp [nbQ0] at h, fun h => by simp at h⟩
theorem nb_do1 : doP [] nbQ0 nbX1 = nbL1 ∧ doA [] nbQ0 nbX1 = nbQ1 := by
  obtain ⟨a, b⟩ := doP_yes nb_ok1
  rw [a, b]
  constructor
  · unfold setP
    rw [if_neg (by decide), if_neg (by rw [khasP_nil]; simp)]
    simp [kposP, cnt, nbL1, nbX1]
  · show setA nbQ0 nbX1 = nbQ1
    unfold setA
    rw [show nbX1.se = 1 from rfl, if_pos nb_has0, nb_pos0]
    rfl
theorem nb_may1 : MayT nbL1 nbQ1 := by
  have := nb_may0.do_ (x := nbX1)
  rw [nb_do1.1, nb_do1.2] at this
  exact this
theorem nb_no2 : okT nbL1 nbQ1 nbX2 = false := by
  cases h : okT nbL1 nbQ1 nbX2
  · rfl
  · have := (okT_iff.1 h).1
    exact absurd this (by decide)
theorem nb_posA1 : kposA nbQ1 2 = 1 := by simp [kposA, nbQ1, cnt, ltI]
theorem nb_hasA1 : khasA nbQ1 2 = false := (dec_false (by rw [nb_posA1]; simp [nbQ1])).symm
theorem nb_posP1 : kposP nbL1 ⟨#[107]⟩ = 0 := by simp [kposP, nbL1, cnt, ltK_irrefl]
theorem nb_hasP1 : khasP nbL1 ⟨#[107]⟩ = true := (dec_true (by rw [nb_posP1]; exact ⟨by simp [nbL1], rfl⟩)).symm
theorem nb_ok3 : okT nbL1 nbQ1 nbX3 = true := okT_iff.2 ⟨by decide, by show nbX3.sq = lastA nbQ1 2 + 1; rw [lastA_no nb_hasA1]; rfl, fun h => by simp [nbQ1] at h, fun h => by simp [nbL1] at h⟩
theorem nb_do3 : doP nbL1 nbQ1 nbX3 = nbL2 ∧ doA nbL1 nbQ1 nbX3 = nbQ2 := by
  obtain ⟨a, b⟩ := doP_yes nb_ok3
  rw [a, b]
  constructor
  · unfold setP
    rw [if_pos (by decide), show nbX3.k = ⟨#[107]⟩ from rfl, if_pos nb_hasP1, nb_posP1]
    rfl
  · unfold setA
    rw [show nbX3.se = 2 from rfl, if_neg (by rw [nb_hasA1]; simp), nb_posA1]
    rfl
theorem nb_may2 : MayT nbL2 nbQ2 := by
  have := nb_may1.do_ (x := nbX3)
  rw [nb_do3.1, nb_do3.2] at this
  exact this
theorem nb_get : tgB nbL2 nbQ2 nbK = ⟨#[]⟩ ∧ tgE nbL2 nbQ2 nbK = 3 := by
  unfold tgB tgE
  rw [if_pos (mayT_iff.2 nb_may2), if_pos (mayT_iff.2 nb_may2), show khasP nbL2 nbK = false from khasP_nil _]
  exact ⟨getB_no (khasP_nil _), by simp⟩
set_option maxRecDepth 100000 in
set_option maxHeartbeats 4000000 in
theorem law_TableNumbers (P : AskP) (D : AskD) (w : World) (h : AskR w P D) :
    Calls Try.prog 5 #[P.val] w fun e w' => e = .returned (.bool true) ∧ Below w.heap.size w w' := by
  obtain ⟨⟨pA, pn, pc⟩, ⟨qA, qn, qc⟩, ⟨xA, xn, xc⟩, ⟨bA, bn, bc⟩, ⟨kA, kn, kc⟩⟩ := P
  clear h
  show Calls Try.prog 5 #[.agg #[.slice pA pn pc, .slice qA qn qc, .slice xA xn xc, .slice bA bn bc, .slice kA kn kc]] w _
  go_enter Try.func5, Try.ntmps5
  go_wp2_with fail
  have hxn : (0 : Int) ≤ (xn : Int) := by omega
  have hB0 : BoxR ((w.alloc (.cells #[.slice pA pn pc, .slice qA qn qc, .slice xA xn xc, .slice bA bn bc, .slice kA kn kc] 30)).alloc (.cells #[.int .i64 1, .int .i64 1099511627775] 50)) (w.alloc (.cells #[.slice pA pn pc, .slice qA qn qc, .slice xA xn xc, .slice bA bn bc, .slice kA kn kc] 30)).heap.size [.int .i64 1, .int .i64 1099511627775] := BoxR.new (w.alloc (.cells #[.slice pA pn pc, .slice qA qn qc, .slice xA xn xc, .slice bA bn bc, .slice kA kn kc] 30)) [.int .i64 1, .int .i64 1099511627775] 50
  have hsz0 : (w.alloc (.cells #[.slice pA pn pc, .slice qA qn qc, .slice xA xn xc, .slice bA bn bc, .slice kA kn kc] 30)).heap.size = w.heap.size + 1 := by simp
  rw [hsz0] at hB0
  have hA0 : AcctsR ((w.alloc (.cells #[.slice pA pn pc, .slice qA qn qc, .slice xA xn xc, .slice bA bn bc, .slice kA kn kc] 30)).alloc (.cells #[.int .i64 1, .int .i64 1099511627775] 50)) (some ⟨w.heap.size + 1, 0, none⟩) 1 nbQ0 := ⟨rfl, rfl, by omega, fun _ => ⟨w.heap.size + 1, 0, rfl, hB0.1, fun j u hj => by rw [Nat.zero_add]; exact hB0.2 j u (by simpa [flat, encA, nbQ0] using hj)⟩⟩
  clear hB0
  refine (table_Apply_ok none 0 0 [] (some ⟨w.heap.size + 1, 0, none⟩) 1 1 nbQ0 nbX1 _ (PairsR.nil0 _) (hA0.up (by (repeat (first | (with_reducible exact Below.refl _ _) | (with_reducible assumption) | (with_reducible apply bel_alloc) | (with_reducible apply bel_drew) | (with_reducible apply bel_drewN) | (with_reducible refine bel_trans ?_ (by with_reducible assumption)) | (with_reducible refine bel_trans ?_ (HF.out _)) | (with_reducible refine bel_set ?_ (by simp) _) | (with_reducible refine bel_set ?_ (by simp; omega) _) | (with_reducible refine bel_set ?_ (by omega) _))))) nb_may0).mono ?_
  clear hA0 hsz0
  rw [nb_do1.1, nb_do1.2, nb_ok1]
  rintro e w1 ⟨vp, va, rfl, hp, ha, _, hb1⟩
  obtain ⟨A1, c1, rfl, hp1, _⟩ := hp.pairs (by simp [nbL1])
  obtain ⟨A2, c2, rfl, ha1, _⟩ := ha.accts (by simp [nbQ1])
  have T0 := (BoxR.new w [.slice pA pn pc, .slice qA qn qc, .slice xA xn xc, .slice bA bn bc, .slice kA kn kc] 30).up (w' := w1) (by (repeat (first | (with_reducible exact Below.refl _ _) | (with_reducible assumption) | (with_reducible apply bel_alloc) | (with_reducible apply bel_drew) | (with_reducible apply bel_drewN) | (with_reducible refine bel_trans ?_ (by with_reducible assumption)) | (with_reducible refine bel_trans ?_ (HF.out _)) | (with_reducible refine bel_set ?_ (by simp) _) | (with_reducible refine bel_set ?_ (by simp; omega) _) | (with_reducible refine bel_set ?_ (by omega) _))))
  have g0 := T0.1
  have a_0 := (T0).2 0 _ rfl; have a_1 := (T0).2 1 _ rfl; have a_2 := (T0).2 2 _ rfl; have a_3 := (T0).2 3 _ rfl; have a_4 := (T0).2 4 _ rfl
  rw [show nbL1.length = 1 from rfl] at hp1 ⊢
  rw [show nbQ1.length = 1 from rfl] at ha1 ⊢
  have HP1 := Lib.hid hp1
  have HA1 := Lib.hid ha1
  clear hp ha hp1 ha1
  have hbw1 : Below w.heap.size w w1 := by (repeat (first | (with_reducible exact Below.refl _ _) | (with_reducible assumption) | (with_reducible apply bel_alloc) | (with_reducible apply bel_drew) | (with_reducible apply bel_drewN) | (with_reducible refine bel_trans ?_ (by with_reducible assumption)) | (with_reducible refine bel_trans ?_ (HF.out _)) | ((with_reducible refine bel_set3 ?_ ?_); rotate_left; omega)))
  go_wp2_with fail
  refine (table_Apply_ok A1 1 c1 nbL1 A2 1 c2 nbQ1 nbX2 _ (HP1.out.up (by (repeat (first | (with_reducible exact Below.refl _ _) | (with_reducible assumption) | (with_reducible apply bel_alloc) | (with_reducible apply bel_drew) | (with_reducible apply bel_drewN) | (with_reducible refine bel_trans ?_ (by with_reducible assumption)) | (with_reducible refine bel_trans ?_ (HF.out _)) | ((with_reducible refine bel_set3 ?_ ?_); rotate_left; omega))))) (HA1.out.up (by (repeat (first | (with_reducible exact Below.refl _ _) | (with_reducible assumption) | (with_reducible apply bel_alloc) | (with_reducible apply bel_drew) | (with_reducible apply bel_drewN) | (with_reducible refine bel_trans ?_ (by with_reducible assumption)) | (with_reducible refine bel_trans ?_ (HF.out _)) | ((with_reducible refine bel_set3 ?_ ?_); rotate_left; omega))))) nb_may1).mono ?_
  rw [nb_no2, (doP_no nb_no2).1, (doP_no nb_no2).2]
  rintro e w2 ⟨vp, va, rfl, hp, ha, _, hb2⟩
  obtain ⟨A3, c3, rfl, _, _⟩ := hp.pairs (by simp [nbL1])
  obtain ⟨A4, c4, rfl, _, _⟩ := ha.accts (by simp [nbQ1])
  have T4 := (BoxR.new w1 [.slice A1 1 c1, .slice A2 1 c2] 25).up (w' := w2) (by (repeat (first | (with_reducible exact Below.refl _ _) | (with_reducible assumption) | (with_reducible apply bel_alloc) | (with_reducible apply bel_drew) | (with_reducible apply bel_drewN) | (with_reducible refine bel_trans ?_ (by with_reducible assumption)) | (with_reducible refine bel_trans ?_ (HF.out _)) | (with_reducible refine bel_set ?_ (by simp) _) | (with_reducible refine bel_set ?_ (by simp; omega) _) | (with_reducible refine bel_set ?_ (by omega) _))))
  have g1 := T4.1
  have t_0 := (T4).2 0 _ rfl; have t_1 := (T4).2 1 _ rfl
  have T02 := T0.up (w' := w2) (by (repeat (first | (with_reducible exact Below.refl _ _) | (with_reducible assumption) | (with_reducible apply bel_alloc) | (with_reducible apply bel_drew) | (with_reducible apply bel_drewN) | (with_reducible refine bel_trans ?_ (by with_reducible assumption)) | (with_reducible refine bel_trans ?_ (HF.out _)) | (with_reducible refine bel_set ?_ (by simp) _) | (with_reducible refine bel_set ?_ (by simp; omega) _) | (with_reducible refine bel_set ?_ (by omega) _))))
  have g02 := T02.1
  clear a_0 a_1 a_2 a_3 a_4
  have a_0 := (T02).2 0 _ rfl; have a_1 := (T02).2 1 _ rfl; have a_2 := (T02).2 2 _ rfl; have a_3 := (T02).2 3 _ rfl; have a_4 := (T02).2 4 _ rfl
  rw [show nbL1.length = 1 from rfl]
  rw [show nbQ1.length = 1 from rfl]
  clear hp ha
  go_wp2_with fail
  refine (table_Apply_ok A1 1 c1 nbL1 A2 1 c2 nbQ1 nbX3 _ (HP1.out.up (by (repeat (first | (with_reducible exact Below.refl _ _) | (with_reducible assumption) | (with_reducible apply bel_alloc) | (with_reducible apply bel_drew) | (with_reducible apply bel_drewN) | (with_reducible refine bel_trans ?_ (by with_reducible assumption)) | (with_reducible refine bel_trans ?_ (HF.out _)) | ((with_reducible refine bel_set3 ?_ ?_); rotate_left; omega))))) (HA1.out.up (by (repeat (first | (with_reducible exact Below.refl _ _) | (with_reducible assumption) | (with_reducible apply bel_alloc) | (with_reducible apply bel_drew) | (with_reducible apply bel_drewN) | (with_reducible refine bel_trans ?_ (by with_reducible assumption)) | (with_reducible refine bel_trans ?_ (HF.out _)) | ((with_reducible refine bel_set3 ?_ ?_); rotate_left; omega))))) nb_may1).mono ?_
  rw [nb_do3.1, nb_do3.2, nb_ok3]
  rintro e w3 ⟨vp, va, rfl, hp, ha, _, hb3⟩
  obtain ⟨A5, c5, rfl, hp5, _⟩ := hp.pairs (by simp [nbL2])
  obtain ⟨A6, c6, rfl, ha5, _⟩ := ha.accts (by simp [nbQ2])
  have T03 := T02.up (w' := w3) (by (repeat (first | (with_reducible exact Below.refl _ _) | (with_reducible assumption) | (with_reducible apply bel_alloc) | (with_reducible apply bel_drew) | (with_reducible apply bel_drewN) | (with_reducible refine bel_trans ?_ (by with_reducible assumption)) | (with_reducible refine bel_trans ?_ (HF.out _)) | (with_reducible refine bel_set ?_ (by simp) _) | (with_reducible refine bel_set ?_ (by simp; omega) _) | (with_reducible refine bel_set ?_ (by omega) _))))
  have g03 := T03.1
  clear a_0 a_1 a_2 a_3 a_4 t_0 t_1
  have a_0 := (T03).2 0 _ rfl; have a_1 := (T03).2 1 _ rfl; have a_2 := (T03).2 2 _ rfl; have a_3 := (T03).2 3 _ rfl; have a_4 := (T03).2 4 _ rfl
  rw [show nbL2.length = 0 from rfl] at hp5 ⊢
  rw [show nbQ2.length = 2 from rfl] at ha5 ⊢
  have HP5 := Lib.hid hp5
  have HA5 := Lib.hid ha5
  clear hp ha hp5 ha5
  go_wp2_with fail
  refine (table_Get A5 0 c5 nbL2 A6 2 c6 nbQ2 nbK _ 3 _ (HP5.out.up (by (repeat (first | (with_reducible exact Below.refl _ _) | (with_reducible assumption) | (with_reducible apply bel_alloc) | (with_reducible apply bel_drew) | (with_reducible apply bel_drewN) | (with_reducible refine bel_trans ?_ (by with_reducible assumption)) | (with_reducible refine bel_trans ?_ (HF.out _)) | ((with_reducible refine bel_set3 ?_ ?_); rotate_left; omega))))) (HA5.out.up (by (repeat (first | (with_reducible exact Below.refl _ _) | (with_reducible assumption) | (with_reducible apply bel_alloc) | (with_reducible apply bel_drew) | (with_reducible apply bel_drewN) | (with_reducible refine bel_trans ?_ (by with_reducible assumption)) | (with_reducible refine bel_trans ?_ (HF.out _)) | ((with_reducible refine bel_set3 ?_ ?_); rotate_left; omega))))) nb_get.1 nb_get.2).mono ?_
  rintro e w4 ⟨rfl, hb4⟩
  have T10 := (BoxR.new w3 [.slice A5 0 c5, .slice A6 2 c6] 25).up (w' := w4) (by (repeat (first | (with_reducible exact Below.refl _ _) | (with_reducible assumption) | (with_reducible apply bel_alloc) | (with_reducible apply bel_drew) | (with_reducible apply bel_drewN) | (with_reducible refine bel_trans ?_ (by with_reducible assumption)) | (with_reducible refine bel_trans ?_ (HF.out _)) | (with_reducible refine bel_set ?_ (by simp) _) | (with_reducible refine bel_set ?_ (by simp; omega) _) | (with_reducible refine bel_set ?_ (by omega) _))))
  have g10 := T10.1
  have t_0 := (T10).2 0 _ rfl; have t_1 := (T10).2 1 _ rfl
  have T04 := T03.up (w' := w4) (by (repeat (first | (with_reducible exact Below.refl _ _) | (with_reducible assumption) | (with_reducible apply bel_alloc) | (with_reducible apply bel_drew) | (with_reducible apply bel_drewN) | (with_reducible refine bel_trans ?_ (by with_reducible assumption)) | (with_reducible refine bel_trans ?_ (HF.out _)) | (with_reducible refine bel_set ?_ (by simp) _) | (with_reducible refine bel_set ?_ (by simp; omega) _) | (with_reducible refine bel_set ?_ (by omega) _))))
  have g04 := T04.1
  clear a_0 a_1 a_2 a_3 a_4
  have a_0 := (T04).2 0 _ rfl; have a_1 := (T04).2 1 _ rfl; have a_2 := (T04).2 2 _ rfl; have a_3 := (T04).2 3 _ rfl; have a_4 := (T04).2 4 _ rfl
  go_wp2_with (first | (go_at_call 18; refine (law22_num _ _).mono ?_; rintro e w' ⟨rfl, rfl⟩) | (go_at_call 19; refine (law22_wakes _).mono ?_; rintro e w9 ⟨rfl, hb9⟩))
  go_ret
  exact ⟨rfl, by (repeat (first | (with_reducible exact Below.refl _ _) | (with_reducible assumption) | (with_reducible apply bel_alloc) | (with_reducible apply bel_drew) | (with_reducible apply bel_drewN) | (with_reducible refine bel_trans ?_ (by with_reducible assumption)) | (with_reducible refine bel_trans ?_ (HF.out _)) | ((with_reducible refine bel_set3 ?_ ?_); rotate_left; omega)))⟩
end Go.Proofs.Ytffoglofijffpaa
