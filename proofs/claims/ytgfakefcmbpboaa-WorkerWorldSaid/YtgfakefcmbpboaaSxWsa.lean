/- A batch is sealed, at the program: Seal. -/
import Derived.Test.YtgfakefcmbpboaaSxWz
import Derived.Test.YtgfakefcmbpboaaSxWv
import Derived.Test.YtgfakefcmbpboaaSxWl
import Derived.Test.YtgfakefcmbpboaaSxWo
namespace Go.Proofs.Ytgfakefcmbpboaa
open Go.RowKit
set_option linter.unusedSimpArgs false
set_option linter.unusedVariables false

/-- Blocks of other types than T are as they were. -/
def TKeep (T : TypeId) (w w' : World) : Prop := ∀ (q : Nat) (cur : Array Value) (t : TypeId), t ≠ T → w.heap[q]? = some (.cells cur t (0, 0)) → w'.heap[q]? = some (.cells cur t (0, 0))
theorem TKeep.refl (T : TypeId) (w : World) : TKeep T w w := fun _ _ _ _ h => h
theorem TKeep.trans {T : TypeId} {a b c : World} (h : TKeep T a b) (k : TKeep T b c) : TKeep T a c := fun q cur t ht hq => k q cur t ht (h q cur t ht hq)
theorem TKeep.of_below {T : TypeId} {w w' : World} (h : Below w.heap.size w w') : TKeep T w w' := fun q cur t _ hq => (h.block q (Array.getElem?_eq_some_iff.1 hq).1).trans hq
theorem TKeep.setg {T : TypeId} {w : World} {g o : Nat} {cs : List Value} {u : Value} (hg : Blk w g T cs) : TKeep T w (w.setCell ⟨g, o, none⟩ u) := fun q cur t ht hq => (Below.heap_setCell _ _ _ _ (fun e => by
  have e' : q = g := e
  subst e'
  have hb' : w.heap[q]? = some (.cells cs.toArray T (0, 0)) := hg
  rw [hb'] at hq
  injection hq with hq
  injection hq with _ e3 _
  exact ht e3.symm)).trans hq
theorem TKeep.of_but {T : TypeId} {g : Nat} {w w' : World} {cs : List Value} (hg : Blk w g T cs) (h : But w.heap.size g w w') : TKeep T w w' := fun q cur t ht hq => (h.block q (Array.getElem?_eq_some_iff.1 hq).1 (fun e => by
  subst e
  have hb' : w.heap[q]? = some (.cells cs.toArray T (0, 0)) := hg
  rw [hb'] at hq
  injection hq with hq
  injection hq with _ e3 _
  exact ht e3.symm)).trans hq
theorem own_tk {T : TypeId} {w w' : World} {B k n : Nat} {t : TypeId} {v : Value} {xs : List Value} (h : w.ownsRow B t k v n xs) (hk : TKeep T w w') (hne : t ≠ T) : w'.ownsRow B t k v n xs := own_of_heap h fun q hq => by
  obtain ⟨_, cur, e⟩ := own_typeB h q hq
  rw [e]; exact hk q cur t hne e
theorem Blk.tk {T : TypeId} {w w' : World} {g : Nat} {t : TypeId} {cs : List Value} (h : Blk w g t cs) (hk : TKeep T w w') (hne : t ≠ T) : Blk w' g t cs := hk g _ t hne h
def TWork (T : TypeId) : Prop := T = 97 ∨ T = 27
theorem twStep : TWork 97 := .inl rfl
theorem twWork : TWork 27 := .inr rfl
theorem own_tkw {T : TypeId} {w w' : World} {B k n : Nat} {t : TypeId} {v : Value} {xs : List Value} (h : w.ownsRow B t k v n xs) (hk : TKeep T w w') (hT : TWork T) (h1 : t ≠ 97) (h2 : t ≠ 27) : w'.ownsRow B t k v n xs := own_tk h hk (by rcases hT with rfl | rfl; exact h1; exact h2)
theorem OwnHs.tk {T : TypeId} {w w' : World} {B : Nat} {v : Value} {l : List HeldD} (h : OwnHs w B v l) (hk : TKeep T w w') (hT : TWork T) : OwnHs w' B v l := by
  obtain ⟨ps, h1, h2, h3⟩ := h
  exact ⟨ps, own_tkw h1 hk hT (by decide) (by decide), h2, fun j hj => own_tkw (h3 j hj) hk hT (by decide) (by decide)⟩
theorem OwnWs.tk {T : TypeId} {w w' : World} {B : Nat} {v : Value} {l : List WaitD} (h : OwnWs w B v l) (hk : TKeep T w w') (hT : TWork T) : OwnWs w' B v l := by
  obtain ⟨ps, h1, h2, h3⟩ := h
  exact ⟨ps, own_tkw h1 hk hT (by decide) (by decide), h2, fun j hj => own_tkw (h3 j hj) hk hT (by decide) (by decide)⟩
theorem OwnM.tk {T : TypeId} {w w' : World} {B : Nat} {P M} (h : OwnM w B P M) (hk : TKeep T w w') (hT : TWork T) : OwnM w' B P M :=
  ⟨own_tkw h.b hk hT (by decide) (by decide), own_tkw h.h1 hk hT (by decide) (by decide), own_tkw h.h2 hk hT (by decide) (by decide), own_tkw h.c1 hk hT (by decide) (by decide), own_tkw h.c2 hk hT (by decide) (by decide), own_tkw h.c3 hk hT (by decide) (by decide), own_tkw h.ds hk hT (by decide) (by decide)⟩
theorem OwnMs.tk {T : TypeId} {w w' : World} {B : Nat} {v : Value} {l : List MsgD} (h : OwnMs w B v l) (hk : TKeep T w w') (hT : TWork T) : OwnMs w' B v l := by
  obtain ⟨ps, h1, h2, h3⟩ := h
  exact ⟨ps, own_tkw h1 hk hT (by decide) (by decide), h2, fun j hj => (h3 j hj).tk hk hT⟩
theorem WorkO.tk {T : TypeId} {w w' : World} {B : Nat} {P : WorkP} {D : WorkD} (h : WorkO w B P D) (hk : TKeep T w w') (hT : TWork T) : WorkO w' B P D := ⟨own_tkw h.op hk hT (by decide) (by decide), h.wa.tk hk hT, h.he.tk hk hT, own_tkw h.re hk hT (by decide) (by decide)⟩
theorem TKeep.sets9 {T : TypeId} {w : World} {g : Nat} {cs : List Value} (h : Blk w g T cs) (a0 a1 a2 a3 a4 a5 a6 a7 a8 : Value) : TKeep T w (((((((((w.setCell ⟨g, 0, none⟩ a0).setCell ⟨g, 1, none⟩ a1).setCell ⟨g, 2, none⟩ a2).setCell ⟨g, 3, none⟩ a3).setCell ⟨g, 4, none⟩ a4).setCell ⟨g, 5, none⟩ a5).setCell ⟨g, 6, none⟩ a6).setCell ⟨g, 7, none⟩ a7).setCell ⟨g, 8, none⟩ a8) :=
  ((((((((TKeep.setg h).trans (TKeep.setg (h.set_ 0 a0))).trans (TKeep.setg ((h.set_ 0 a0).set_ 1 a1))).trans (TKeep.setg (((h.set_ 0 a0).set_ 1 a1).set_ 2 a2))).trans (TKeep.setg ((((h.set_ 0 a0).set_ 1 a1).set_ 2 a2).set_ 3 a3))).trans (TKeep.setg (((((h.set_ 0 a0).set_ 1 a1).set_ 2 a2).set_ 3 a3).set_ 4 a4))).trans (TKeep.setg ((((((h.set_ 0 a0).set_ 1 a1).set_ 2 a2).set_ 3 a3).set_ 4 a4).set_ 5 a5))).trans (TKeep.setg (((((((h.set_ 0 a0).set_ 1 a1).set_ 2 a2).set_ 3 a3).set_ 4 a4).set_ 5 a5).set_ 6 a6))).trans (TKeep.setg ((((((((h.set_ 0 a0).set_ 1 a1).set_ 2 a2).set_ 3 a3).set_ 4 a4).set_ 5 a5).set_ 6 a6).set_ 7 a7))
theorem TxsR.dropped {w : World} {b n : Nat} {l : List TxD} (h : TxsR w (some ⟨b, 0, none⟩) n l) {i : Nat} (hi : i < n) : TxsR w (some ⟨b, i * 4, none⟩) (n - i) (l.drop i) := by
  obtain ⟨h1, h2, h3, h4⟩ := h
  obtain ⟨b', off, e, hb, hc⟩ := h4 (by omega)
  injection e with e
  injection e with e1 e2 _
  subst e1; subst e2
  refine ⟨by rw [List.length_drop, h1], by rw [flat_drop encX_len, List.length_drop, h2]; omega, by omega, fun _ => ⟨b, i * 4, rfl, hb, fun j u hj => ?_⟩⟩
  rw [flat_drop encX_len, List.getElem?_drop] at hj
  have := hc _ _ hj
  rwa [Nat.zero_add] at this
theorem own_box1 {w : World} {B g : Nat} {x : Int} (h : Blk w g 3 [.int .i64 x]) (hB : B ≤ g) : OwnI w B (.slice (some ⟨g, 0, none⟩) 1 1) [x] :=
  ⟨rfl, .inr ⟨g, 1, #[.int .i64 x], rfl, hB, h, Nat.le_refl _, by decide, rfl, rfl⟩⟩
theorem steps_lt {l : List Int} (h : ∀ j, j + 1 < l.length → nth l j < nth l (j + 1)) : ∀ i j, i < j → j < l.length → nth l i < nth l j := by
  have main : ∀ d i, i + d + 1 < l.length → nth l i < nth l (i + d + 1) := fun d => by
    induction d with
    | zero => intro i hi; exact h i hi
    | succ d ih => intro i hi; have := ih i (by omega); have := h (i + d + 1) (by omega); rw [show i + (d + 1) + 1 = i + d + 1 + 1 by omega]; omega
  intro i j hij hj
  have := main (j - i - 1) i (by omega)
  rwa [show i + (j - i - 1) + 1 = j by omega] at this
theorem risesIn_of {l : List Int} {n : Int} (h : crisS l 1 n = true) : RisesIn l n := by
  obtain ⟨h1, h2⟩ := dec_iff.1 h
  exact ⟨steps_lt h1, h2⟩
theorem WaitsOk.sorted {l : List WaitD} {n : Int} (h : wtB l n = true) : SortedW l := by
  have h0 := wtB_iff.1 h
  have main : ∀ d i, i + d + 1 < l.length → (wth l i).di < (wth l (i + d + 1)).di := fun d => by
    induction d with
    | zero => intro i hi; have := (h0 (i + 1) hi).2.2 (by omega); simpa using this
    | succ d ih => intro i hi; have := ih i (by omega); have h9 := (h0 (i + d + 1 + 1) (by omega)).2.2 (by omega); simp only [Nat.add_sub_cancel] at h9; rw [show i + (d + 1) + 1 = i + d + 1 + 1 by omega]; omega
  intro i j hij hj
  have := main (j - i - 1) i (by omega)
  rw [show i + (j - i - 1) + 1 = j by omega] at this
  simpa [ltI] using this
theorem waits_rise {l : List WaitD} {n : Int} (h : wtB l n = true) : ∀ x ∈ l, RisesIn x.ak n := fun x hx => by
  obtain ⟨j, hj, rfl⟩ := List.getElem_of_mem hx
  have := (wtB_iff.1 h j hj).2.1
  simp only [wth, List.getD_eq_getElem?_getD, List.getElem?_eq_getElem hj, Option.getD_some] at this
  exact risesIn_of this
theorem insAt_mem {α : Type} {l : List α} {i : Nat} {x y : α} (h : y ∈ insAt l i x) : y = x ∨ y ∈ l := by
  unfold insAt at h
  rw [List.mem_append, List.mem_cons] at h
  rcases h with h | rfl | h
  · exact .inr (List.mem_of_mem_take h)
  · exact .inl rfl
  · exact .inr (List.mem_of_mem_drop h)
noncomputable def sealW (D : WorkD) (d : Int) : List WaitD := if khasW D.wa d = true then D.wa else insAt D.wa (kposW D.wa d) ⟨d, [D.id]⟩
theorem sealW_mem {D : WorkD} {d : Int} {x : WaitD} (h : x ∈ sealW D d) : x = ⟨d, [D.id]⟩ ∨ x ∈ D.wa := by
  unfold sealW at h
  split at h
  · exact .inr h
  · exact insAt_mem h
theorem sealW_len (D : WorkD) (d : Int) : (sealW D d).length ≤ D.wa.length + 1 := by
  unfold sealW
  split
  · omega
  · rw [insAt_len (show kposW D.wa d ≤ D.wa.length from cnt_le _ _)]; omega
theorem sealW_rise {D : WorkD} {d : Int} (h : wtB D.wa D.nodes = true) (h1 : 1 ≤ D.id) (h2 : D.id ≤ D.nodes) : ∀ x ∈ sealW D d, RisesIn x.ak D.nodes := fun x hx => by
  rcases sealW_mem hx with rfl | hx
  · exact ⟨fun i j hij hj => by simp at hj; omega, fun j hj => by (obtain rfl : j = 0 := by simpa using hj); exact ⟨h1, h2⟩⟩
  · exact waits_rise h x hx
theorem sealW_big {D : WorkD} {d : Int} (h : BigW D.wa) (hl : D.wa.length ≤ 700000000) : BigW (sealW D d) := ⟨by have := sealW_len D d; omega, fun x hx => by
  rcases sealW_mem hx with rfl | hx
  · simp
  · exact h.2 x hx⟩
noncomputable def sealD (D : WorkD) (d : Int) : WorkD := { D with op := D.op.drop 8, next := D.next + 1, age := 0, he := insAt D.he (kposH D.he d) ⟨d, nxD D⟩, wa := keptW D.nodes (sealW D d), re := keptR D.nodes D.re (sealW D d) }
set_option maxRecDepth 100000 in
set_option maxHeartbeats 8000000 in
theorem worker_Seal_ok (P : WorkP) (D : WorkD) (d : Int) (B : Nat) (w : World) (hO : WorkO w B P D) (hs : BigD D) (hB : B ≤ w.heap.size) (hm : mayW D = true) (hE : nxE D = 0) (hd : digS d = true) (hk : khasH D.he d = false) (hre : D.re.length + D.wa.length ≤ 700000000) :
    Calls Try.prog 24 #[P.val D, .int .i64 d] w fun e w' => ∃ P' A n c, e = .returned (.tuple #[P'.val (sealD D d), .slice A n c, .int .i64 0]) ∧ WorkO w' B P' (sealD D d) ∧ OwnMs w' w.heap.size (.slice A n c) (askL D.id d (nxD D) [] D.nodes.toNat) ∧ Below w.heap.size w w' := by
  have HM := Lib.hid (mayW_iff.1 hm)
  have HW := Lib.hid (hO.work hs)
  have HO := Lib.hid hO
  have HS := Lib.hid hs
  have HE := Lib.hid hE
  have HD := Lib.hid hd
  have HKF := Lib.hid hk
  have HRE := Lib.hid hre
  obtain ⟨lo, hlo⟩ : ∃ lo, kposH D.he d = lo := ⟨_, rfl⟩
  have HLO := Lib.hid hlo
  obtain ⟨⟨oA, on, oc⟩, ⟨tA, tn, tc⟩, ⟨eA, en, ec⟩, ⟨rA, rn, rc⟩⟩ := P
  have HON : Hid (D.op.length = on) := Lib.hid HW.out.op.1
  have HEN : Hid (D.he.length = en) := Lib.hid HW.out.he.1
  have hnext := (nxE_zero hE).2.1
  obtain ⟨m1, m2, m3, m4, m5, m6, m7, m8, m9, m10, m11, m12⟩ := HM.out
  have hid1 := m2
  have hid2 := m3
  have hn16 : D.nodes ≤ 16 := (isS_bd m1).2
  have hn1 : 1 ≤ D.nodes := (isS_bd m1).1
  have hnx1 : 1 ≤ D.next := (numB_iff.1 m4).1
  have hon : on ≤ 64 := by rw [← HON.out]; exact m7
  have hen : en ≤ 1024 := by rw [← HEN.out]; exact m8
  clear hO hs hm hE hd hk hre hlo m1 m2 m3 m4 m5 m6 m7 m8 m9 m10 m11 m12
  show Calls Try.prog 24 #[.agg #[.int .i64 D.id, .int .i64 D.nodes, .int .i64 D.next, .slice oA on oc, .int .i64 D.age, .int .i64 D.clock, .slice tA tn tc, .slice eA en ec, .slice rA rn rc], .int .i64 d] w _
  go_enter Try.func24, Try.ntmps24
  go_wp2_with fail
  have hX1 : Blk ((w.alloc (.cells #[.int .i64 D.id, .int .i64 D.nodes, .int .i64 D.next, .slice oA on oc, .int .i64 D.age, .int .i64 D.clock, .slice tA tn tc, .slice eA en ec, .slice rA rn rc] 27)).alloc (.cells #[.int .i64 0, .int .i64 0, .int .i64 0, .slice none 0 0, .int .i64 0, .int .i64 0, .slice none 0 0, .slice none 0 0, .slice none 0 0] 27)) (w.heap.size + 1) 27 [.int .i64 0, .int .i64 0, .int .i64 0, .slice none 0 0, .int .i64 0, .int .i64 0, .slice none 0 0, .slice none 0 0, .slice none 0 0] := by
    have := Blk.new (w.alloc (.cells #[.int .i64 D.id, .int .i64 D.nodes, .int .i64 D.next, .slice oA on oc, .int .i64 D.age, .int .i64 D.clock, .slice tA tn tc, .slice eA en ec, .slice rA rn rc] 27)) 27 [.int .i64 0, .int .i64 0, .int .i64 0, .slice none 0 0, .int .i64 0, .int .i64 0, .slice none 0 0, .slice none 0 0, .slice none 0 0]
    simpa using this
  have hX0 : Blk ((w.alloc (.cells #[.int .i64 D.id, .int .i64 D.nodes, .int .i64 D.next, .slice oA on oc, .int .i64 D.age, .int .i64 D.clock, .slice tA tn tc, .slice eA en ec, .slice rA rn rc] 27)).alloc (.cells #[.int .i64 0, .int .i64 0, .int .i64 0, .slice none 0 0, .int .i64 0, .int .i64 0, .slice none 0 0, .slice none 0 0, .slice none 0 0] 27)) w.heap.size 27 [.int .i64 D.id, .int .i64 D.nodes, .int .i64 D.next, .slice oA on oc, .int .i64 D.age, .int .i64 D.clock, .slice tA tn tc, .slice eA en ec, .slice rA rn rc] := (Blk.new w 27 [.int .i64 D.id, .int .i64 D.nodes, .int .i64 D.next, .slice oA on oc, .int .i64 D.age, .int .i64 D.clock, .slice tA tn tc, .slice eA en ec, .slice rA rn rc]).up (belA)
  have hbX : Below w.heap.size w ((w.alloc (.cells #[.int .i64 D.id, .int .i64 D.nodes, .int .i64 D.next, .slice oA on oc, .int .i64 D.age, .int .i64 D.clock, .slice tA tn tc, .slice eA en ec, .slice rA rn rc] 27)).alloc (.cells #[.int .i64 0, .int .i64 0, .int .i64 0, .slice none 0 0, .int .i64 0, .int .i64 0, .slice none 0 0, .slice none 0 0, .slice none 0 0] 27)) := belA
  generalize ((w.alloc (.cells #[.int .i64 D.id, .int .i64 D.nodes, .int .i64 D.next, .slice oA on oc, .int .i64 D.age, .int .i64 D.clock, .slice tA tn tc, .slice eA en ec, .slice rA rn rc] 27)).alloc (.cells #[.int .i64 0, .int .i64 0, .int .i64 0, .slice none 0 0, .int .i64 0, .int .i64 0, .slice none 0 0, .slice none 0 0, .slice none 0 0] 27)) = X at *
  have HX0 := Lib.hid hX0
  have HX1 := Lib.hid hX1
  clear hX0 hX1
  refine (worker_Next_ok ⟨⟨oA, on, oc⟩, ⟨tA, tn, tc⟩, ⟨eA, en, ec⟩, ⟨rA, rn, rc⟩⟩ D _ (HW.out.up hbX) HE.out (by rw [HON.out]; omega)).mono ?_
  rintro e w1 ⟨v1, rfl, ho1, hb1⟩
  obtain ⟨bA, bc, rfl, htx1, -⟩ := ho1.txs (by have := List.length_take_le 8 D.op; omega)
  obtain ⟨bn, hbn⟩ : ∃ n, (D.op.take 8).length = n := ⟨_, rfl⟩
  rw [hbn] at htx1 ho1 ⊢
  have HBN := Lib.hid hbn
  have hbn8 : bn ≤ 8 := by rw [← hbn]; exact List.length_take_le 8 D.op
  have hbnn : bn ≤ on := by rw [← hbn, List.length_take, HON.out]; omega
  have HB1 := Lib.hid ho1
  have hb1w : Below w.heap.size w w1 := bel_trans hbX hb1
  have hY0 := HX0.out.up hb1
  have hY1 := HX1.out.up hb1
  have HY0 := Lib.hid hY0
  have HY1 := Lib.hid hY1
  have hTX1 := Lib.hid htx1
  have a_0 := (hY0.box).2 0 _ rfl; have a_1 := (hY0.box).2 1 _ rfl; have a_2 := (hY0.box).2 2 _ rfl; have a_3 := (hY0.box).2 3 _ rfl; have a_4 := (hY0.box).2 4 _ rfl; have a_5 := (hY0.box).2 5 _ rfl; have a_6 := (hY0.box).2 6 _ rfl; have a_7 := (hY0.box).2 7 _ rfl; have a_8 := (hY0.box).2 8 _ rfl
  have ly0 := hY0.lt
  have ly1 := hY1.lt
  clear hbn htx1 ho1 hY0 hY1 HX0 HX1 hb1
  go_wp2_with (go_at_call 49; refine (comm_Digest d true _ HD.out).mono ?_; rintro e w' ⟨rfl, rfl⟩)
  have hz1 : w.heap.size + 1 < w1.heap.size := HY1.out.lt
  have hbZ1 : Below w1.heap.size w1 (w1.alloc (.cells #[.int .i64 D.id, .int .i64 D.next, .slice bA bn bc] 40)) := belA
  have HQ7 := Lib.hid (Blk.new w1 40 [.int .i64 D.id, .int .i64 D.next, .slice bA bn bc])
  refine (worker_At eA en ec D.he d lo false _ (HW.out.he.up (bel_trans hb1w hbZ1)) (MayHs.sorted (hdB_iff.1 HM.out.2.2.2.2.2.2.2.2.2.2.1)) (by omega) HLO.out HKF.out).mono ?_
  rintro e w3 ⟨rfl, hb3⟩
  have hb31 : Below w1.heap.size w1 w3 := bel_trans hbZ1 hb3
  have hb3w : Below w.heap.size w w3 := bel_trans hb1w hb31
  have HQ7b := Lib.hid (HQ7.out.up hb3)
  have HU0 := Lib.hid (HY0.out.up hb31)
  have HU1 := Lib.hid (HY1.out.up hb31)
  have lu0 := HU0.out.lt
  have lu1 := HU1.out.lt
  clear a_0 a_1 a_2 a_3 a_4 a_5 a_6 a_7 a_8 ly0 ly1 HQ7 hbZ1 hb3
  have a_0 := (HU0.out.box).2 0 _ rfl; have a_1 := (HU0.out.box).2 1 _ rfl; have a_2 := (HU0.out.box).2 2 _ rfl; have a_3 := (HU0.out.box).2 3 _ rfl; have a_4 := (HU0.out.box).2 4 _ rfl; have a_5 := (HU0.out.box).2 5 _ rfl; have a_6 := (HU0.out.box).2 6 _ rfl; have a_7 := (HU0.out.box).2 7 _ rfl; have a_8 := (HU0.out.box).2 8 _ rfl
  go_upto_region 10 with fail
  obtain ⟨g, hg⟩ : ∃ g, g = w3.heap.size := ⟨_, rfl⟩
  have hG : Blk (w3.alloc (.cells #[.int .i64 D.id, .int .i64 D.nodes, .int .i64 D.next, .slice oA on oc, .int .i64 D.age, .int .i64 D.clock, .slice tA tn tc, .slice eA en ec, .slice rA rn rc, .slice none 0 0] 97)) g 97 [.int .i64 D.id, .int .i64 D.nodes, .int .i64 D.next, .slice oA on oc, .int .i64 D.age, .int .i64 D.clock, .slice tA tn tc, .slice eA en ec, .slice rA rn rc, .slice none 0 0] := by rw [hg]; exact Blk.new w3 97 [.int .i64 D.id, .int .i64 D.nodes, .int .i64 D.next, .slice oA on oc, .int .i64 D.age, .int .i64 D.clock, .slice tA tn tc, .slice eA en ec, .slice rA rn rc, .slice none 0 0]
  have hb3X : Below w3.heap.size w3 (w3.alloc (.cells #[.int .i64 D.id, .int .i64 D.nodes, .int .i64 D.next, .slice oA on oc, .int .i64 D.age, .int .i64 D.clock, .slice tA tn tc, .slice eA en ec, .slice rA rn rc, .slice none 0 0] 97)) := belA
  rw [← hg]
  obtain ⟨X2, hX2⟩ : ∃ X2, X2 = (w3.alloc (.cells #[.int .i64 D.id, .int .i64 D.nodes, .int .i64 D.next, .slice oA on oc, .int .i64 D.age, .int .i64 D.clock, .slice tA tn tc, .slice eA en ec, .slice rA rn rc, .slice none 0 0] 97)) := ⟨_, rfl⟩
  rw [← hX2] at hG hb3X ⊢
  clear hX2
  obtain ⟨g7, hg7⟩ : ∃ g7, g7 = w1.heap.size := ⟨_, rfl⟩
  rw [← hg7] at HQ7b ⊢
  have HQ7 := Lib.hid (HQ7b.out.up hb3X)
  have HV1 := Lib.hid (HU1.out.up hb3X)
  have hbX2 : Below w.heap.size w X2 := bel_trans hb3w hb3X
  have HG := Lib.hid hG
  have hgl := hG.lt
  have hg7g : g7 < g := by have := HQ7b.out.lt; omega
  have hN1 : w.heap.size + 1 < g7 := by omega
  have HOX := Lib.hid (HO.out.up hbX2)
  have HB2 := Lib.hid (HB1.out.up (bel_trans hb31 hb3X))
  have HGE := Lib.hid hg
  have HG7E := Lib.hid hg7
  have hgw : w.heap.size + 2 ≤ g := by omega
  have hg3 : w3.heap.size ≤ g := by omega
  clear hG HQ7b HU0 HU1 a_0 a_1 a_2 a_3 a_4 a_5 a_6 a_7 a_8 hg hg7
  have hon0 : 0 < on := by
    have h9 := (nxE_zero HE.out).1
    rw [HON.out] at h9; omega
  obtain ⟨go, eo, hgo1, hgo2⟩ := own_nz (show World.ownsRow _ B 37 4 (.slice oA on oc) on _ from by have h9 := HOX.out.op; unfold OwnX SlP.v at h9; rw [HON.out] at h9; exact h9) hon0
  subst eo
  have hooc : on ≤ oc := HW.out.oc
  have hocm : oc ≤ 9223372036854775807 := HW.out.om
  have HDR : Hid (D.op.drop bn = D.op.drop 8) := Lib.hid (by
    rw [← HBN.out, List.length_take]
    rcases Nat.le_total 8 D.op.length with h | h
    · rw [Nat.min_eq_left h]
    · rw [Nat.min_eq_right h, List.drop_length, List.drop_eq_nil_of_le h])
  go_cut [] from 39 to 66 (fun wx => ∃ A n c, Blk wx g 97 [.int .i64 D.id, .int .i64 D.nodes, .int .i64 (D.next + 1), .slice A n c, .int .i64 0, .int .i64 D.clock, .slice tA tn tc, .slice eA en ec, .slice rA rn rc, .slice none 0 0] ∧ OwnX wx X2.heap.size (.slice A n c) (D.op.drop 8) ∧ TKeep 97 X2 wx ∧ Below w3.heap.size w3 wx)
  case first =>
    have hg7l : g7 < X2.heap.size := HQ7.out.lt
    have hgnx := IntWalk.i64_in (n := D.next + 1) (by omega)
    obtain ⟨no, hno⟩ : ∃ n, (D.op.drop bn).length = n := ⟨_, rfl⟩
    have hno2 : no ≤ 64 := by rw [← hno, List.length_drop, HON.out]; omega
    have HNO := Lib.hid hno
    clear hno
    obtain ⟨S, hS⟩ : ∃ S : World → Prop, S = fun Y => Y.cell? ⟨g7, 2, none⟩ = some (.slice bA bn bc) := ⟨_, rfl⟩
    have hS1 : ∀ Y, S Y → Y.cell? ⟨g7, 2, none⟩ = some (.slice bA bn bc) := fun Y h => by rw [hS] at h; exact h
    have hS2 : ∀ Y, Below X2.heap.size X2 Y → S Y := fun Y hY => by rw [hS]; exact (HQ7.out.up hY).box.2 2 _ rfl
    have hS4 : ∀ Y o u, S Y → S (Y.setCell ⟨g, o, none⟩ u) := fun Y o u h => by rw [hS] at h ⊢; dsimp only at h ⊢; exact (World.cell?_setCell_other _ _ _ _ (by intro e; simp only [Addr.mk.injEq] at e; omega)).trans h
    have hc3 : ∀ Y, Below X2.heap.size X2 Y → Y.cell? ⟨g, 3, none⟩ = some (.slice (some ⟨go, 0, none⟩) on oc) := fun Y hY => (HG.out.up hY).box.2 3 _ rfl
    have hc2 : ∀ Y, Below X2.heap.size X2 Y → Y.cell? ⟨g, 2, none⟩ = some (.int .i64 D.next) := fun Y hY => (HG.out.up hY).box.2 2 _ rfl
    have HTD : Hid (∀ Y, Below X2.heap.size X2 Y → TxsR Y (some ⟨go, bn * 4, none⟩) (on - bn) (D.op.drop bn)) := Lib.hid (fun Y hY => by
      by_cases hbo : bn < on
      · exact ((HW.out.op.up hbX2).up hY).dropped hbo
      · have e1 : on - bn = 0 := by omega
        have e2 : D.op.drop bn = [] := List.drop_eq_nil_of_le (by rw [HON.out]; omega)
        rw [e1, e2]; exact ⟨rfl, rfl, by omega, fun h => absurd h (by omega)⟩)
    clear hS
    by_cases hcap : oc = bn
    · have hon2 : on = bn := by omega
      have HTD0 : Hid (∀ Y, TxsR Y (some ⟨go, 0, none⟩) 0 (D.op.drop bn)) := Lib.hid (fun Y => by
        have e2 : D.op.drop bn = [] := List.drop_eq_nil_of_le (by rw [HON.out]; omega)
        rw [e2]; exact ⟨rfl, rfl, by omega, fun h => absurd h (by omega)⟩)
      have hcap' : bn = oc := hcap.symm
      have hon2' : bn = on := hon2.symm
      clear hcap hon2
      subst hcap'
      subst hon2'
      refine wp_region_held_drew (S := S) (by kernel_rfl) (hS2 _ (bel_drew (Below.refl _ _))) (fun hHeld => ?_)
      have hbd : Below X2.heap.size X2 X2.drew := bel_drew (Below.refl _ _)
      have hZ := hHeld
      generalize X2.drew = Z at *
      (refine wpAnyH_tk 0 (some 39) (v := ?_) rfl rfl ?_ ?_; rotate_left; (focus (intro wq hSw; clear hSw; go_simp; all_goals (with_reducible rfl))); simp only [Act.put, lzT, lzZ, lzS])
      (refine wpAnyH_tk 1 (some 40) (v := ?_) rfl rfl ?_ ?_; rotate_left; (focus (intro wq hSw; clear hSw; go_simp; all_goals (with_reducible rfl))); simp only [Act.put, lzT, lzZ, lzS])
      (refine wpAnyH_tk 2 (some 41) (v := ?_) rfl rfl ?_ ?_; rotate_left; (focus (intro wq hSw; clear hSw; go_simp; all_goals (with_reducible rfl))); simp only [Act.put, lzT, lzZ, lzS])
      (refine wpAnyH_tk 3 (some 42) (v := ?_) rfl rfl ?_ ?_; rotate_left; (focus (intro wq hSw; clear hSw; go_simp; all_goals (with_reducible rfl))); simp only [Act.put, lzT, lzZ, lzS])
      (refine wpAnyH_tk 4 (some 43) (v := ?_) rfl rfl ?_ ?_; rotate_left; (focus (intro wq hSw; clear hSw; go_simp; all_goals (with_reducible rfl))); simp only [Act.put, lzT, lzZ, lzS])
      (refine wpAnyH_tk 5 (some 44) (v := ?_) rfl rfl ?_ ?_; rotate_left; (focus (intro wq hSw; clear hSw; go_simp; all_goals (with_reducible rfl))); simp only [Act.put, lzT, lzZ, lzS])
      (refine wpAnyH_tk 6 (some 45) (v := ?_) rfl rfl ?_ ?_; rotate_left; (focus (intro wq hSw; clear hSw; go_simp; all_goals (with_reducible rfl))); simp only [Act.put, lzT, lzZ, lzS])
      (refine wpAnyH_tk 8 (some 47) (v := ?_) rfl rfl ?_ ?_; rotate_left; (focus (intro wq hSw; clear hSw; go_simp; all_goals (with_reducible rfl))); simp only [Act.put, lzT, lzZ, lzS])
      (refine wpAnyH_tk 9 (some 48) (v := ?_) rfl rfl ?_ ?_; rotate_left; (focus (intro wq hSw; have q9 := hS1 wq hSw; clear hSw; go_simp; all_goals (with_reducible rfl))); simp only [Act.put, lzT, lzZ, lzS])
      (refine wpAnyH_tk 10 (some 49) (v := ?_) rfl rfl ?_ ?_; rotate_left; (focus (intro wq hSw; clear hSw; go_simp; all_goals (with_reducible rfl))); simp only [Act.put, lzT, lzZ, lzS])
      (refine wpAnyH_tk 13 (some 52) (v := ?_) rfl rfl ?_ ?_; rotate_left; (focus (intro wq hSw; clear hSw; go_simp; all_goals (with_reducible rfl))); simp only [Act.put, lzT, lzZ, lzS])
      (refine wpAnyH_tk 14 (some 53) (v := ?_) rfl rfl ?_ ?_; rotate_left; (focus (intro wq hSw; clear hSw; go_simp; all_goals (with_reducible rfl))); simp only [Act.put, lzT, lzZ, lzS])
      (refine wpAnyH_tk 15 (some 54) (v := ?_) rfl rfl ?_ ?_; rotate_left; (focus (intro wq hSw; clear hSw; go_simp; all_goals (with_reducible rfl))); simp only [Act.put, lzT, lzZ, lzS])
      (refine wpAnyH_tk 16 (some 55) (v := ?_) rfl rfl ?_ ?_; rotate_left; (focus (intro wq hSw; clear hSw; go_simp; all_goals (with_reducible rfl))); simp only [Act.put, lzT, lzZ, lzS])
      refine wpAnyH_ready (rs := [7, 17]) (by kernel_rfl) (by simp) ?_
      refine AllReadyH.cons (o := _) rfl (fun K hK => ?_) (AllReadyH.cons (o := _) rfl (fun K hK => ?_) AllReadyH.nil)
      · skip
        have q9 := hc3 _ (hbd)
        go_simp
        clear q9
        refine hK.out _ _ (hS2 _ (hbd)) (fun hHeld => ?_)
        clear hK K
        (try simp only [Act.put, lzT, lzZ, lzS])
        (refine wpAnyH_tk 11 (some 50) (v := ?_) rfl rfl ?_ ?_; rotate_left; (focus (intro wq hSw; clear hSw; go_simp; all_goals (with_reducible rfl))); simp only [Act.put, lzT, lzZ, lzS])
        refine wpAnyH_ready (rs := [12, 17]) (by kernel_rfl) (by simp) ?_
        refine AllReadyH.cons (o := _) rfl (fun K hK => ?_) (AllReadyH.cons (o := _) rfl (fun K hK => ?_) AllReadyH.nil)
        · skip
          go_simp
          (go_at_call 45; refine (clone_Txs (some ⟨go, 0, none⟩) 0 0 (D.op.drop bn) _ (HTD0.out _) (by omega)).mono ?_; rintro e wo ⟨vo, rfl, ho5, hbO⟩; obtain ⟨Ao, co, eo, -⟩ := ho5.txs (by rw [HNO.out]; omega); rw [HNO.out] at eo; subst eo)
          have hbO2 := bel_trans (hbd) hbO
          have ho5' := ho5.mono (B' := X2.heap.size) ((hbd).size)
          refine hK.out _ _ (hS2 _ hbO2) (fun hHeld => ?_)
          clear hK K
          (try simp only [Act.put, lzT, lzZ, lzS])
          refine wpAnyH_ready (rs := [17]) (by kernel_rfl) (by simp) ?_
          refine AllReadyH.cons (o := _) rfl (fun K hK => ?_) AllReadyH.nil
          have q9 := hc2 _ (hbO2)
          go_simp
          clear q9
          refine hK.out _ _ (hS2 _ (hbO2)) (fun hHeld => ?_)
          clear hK K
          (try simp only [Act.put, lzT, lzZ, lzS])
          (refine wpAnyH_tk 18 (some 57) (v := ?_) rfl rfl ?_ ?_; rotate_left; (focus (intro wq hSw; clear hSw; go_simp; all_goals (with_reducible rfl))); simp only [Act.put, lzT, lzZ, lzS])
          (refine wpAnyH_tk 19 (some 58) (v := ?_) rfl rfl ?_ ?_; rotate_left; (focus (intro wq hSw; clear hSw; go_simp; all_goals (with_reducible rfl))); simp only [Act.put, lzT, lzZ, lzS])
          (refine wpAnyH_tk 20 (some 59) (v := ?_) rfl rfl ?_ ?_; rotate_left; (focus (intro wq hSw; clear hSw; go_simp; all_goals (with_reducible rfl))); simp only [Act.put, lzT, lzZ, lzS])
          (refine wpAnyH_tk 21 (some 60) (v := ?_) rfl rfl ?_ ?_; rotate_left; (focus (intro wq hSw; clear hSw; go_simp; all_goals (with_reducible rfl))); simp only [Act.put, lzT, lzZ, lzS])
          refine wpAnyH_ready (rs := [22]) (by kernel_rfl) (by simp) ?_
          refine AllReadyH.cons (o := _) rfl (fun K hK => ?_) AllReadyH.nil
          have hG0 := HG.out.up hbO2
          have hs0 := hS2 _ hbO2
          have qf := hG0.frozen
          have ql := hG0.lt
          have q9 := hG0.box.2 3 _ rfl
          go_simp
          clear qf ql q9
          have hG1 := hG0.set_ 3 (.slice Ao no co)
          have hs1 := hS4 _ 3 (.slice Ao no co) hs0
          refine hK.out _ _ (hs1) (fun hHeld => ?_)
          clear hK K
          (try simp only [Act.put, lzT, lzZ, lzS])
          (refine wpAnyH_tk 23 (some 61) (v := ?_) rfl rfl ?_ ?_; rotate_left; (focus (intro wq hSw; clear hSw; go_simp; all_goals (with_reducible rfl))); simp only [Act.put, lzT, lzZ, lzS])
          (refine wpAnyH_tk 24 (some 62) (v := ?_) rfl rfl ?_ ?_; rotate_left; (focus (intro wq hSw; clear hSw; go_simp; all_goals (with_reducible rfl))); simp only [Act.put, lzT, lzZ, lzS])
          (refine wpAnyH_tk 25 (some 63) (v := ?_) rfl rfl ?_ ?_; rotate_left; (focus (intro wq hSw; clear hSw; go_simp; all_goals (with_reducible rfl))); simp only [Act.put, lzT, lzZ, lzS])
          refine wpAnyH_ready (rs := [26]) (by kernel_rfl) (by simp) ?_
          refine AllReadyH.cons (o := _) rfl (fun K hK => ?_) AllReadyH.nil
          have qf := hG1.frozen
          have ql := hG1.lt
          have q9 := hG1.box.2 2 _ rfl
          go_simp
          clear qf ql q9
          have hG2 := hG1.set_ 2 (.int .i64 (D.next + 1))
          have hs2 := hS4 _ 2 (.int .i64 (D.next + 1)) hs1
          refine hK.out _ _ (hs2) (fun hHeld => ?_)
          clear hK K
          (try simp only [Act.put, lzT, lzZ, lzS])
          (refine wpAnyH_tk 27 (some 64) (v := ?_) rfl rfl ?_ ?_; rotate_left; (focus (intro wq hSw; clear hSw; go_simp; all_goals (with_reducible rfl))); simp only [Act.put, lzT, lzZ, lzS])
          (refine wpAnyH_tk 28 (some 65) (v := ?_) rfl rfl ?_ ?_; rotate_left; (focus (intro wq hSw; clear hSw; go_simp; all_goals (with_reducible rfl))); simp only [Act.put, lzT, lzZ, lzS])
          (refine wpAnyH_tk 29 (some 66) (v := ?_) rfl rfl ?_ ?_; rotate_left; (focus (intro wq hSw; clear hSw; go_simp; all_goals (with_reducible rfl))); simp only [Act.put, lzT, lzZ, lzS])
          refine wpAnyH_ready (rs := [30]) (by kernel_rfl) (by simp) ?_
          refine AllReadyH.cons (o := _) rfl (fun K hK => ?_) AllReadyH.nil
          have qf := hG2.frozen
          have ql := hG2.lt
          have q9 := hG2.box.2 4 _ rfl
          go_simp
          clear qf ql q9
          have hG3 := hG2.set_ 4 (.int .i64 0)
          have hs3 := hS4 _ 4 (.int .i64 0) hs2
          refine hK.out _ _ (hs3) (fun hHeld => ?_)
          clear hK K
          (try simp only [Act.put, lzT, lzZ, lzS])
          refine wpAnyH_done (by kernel_rfl) ?_ _
          go_wp2_with fail
          go_meet
          have ht1 := ((TKeep.setg (o := 3) (u := .slice Ao no co) hG0).trans (TKeep.setg (o := 2) (u := .int .i64 (D.next + 1)) hG1)).trans (TKeep.setg (o := 4) (u := .int .i64 0) hG2)
          exact ⟨Ao, no, co, hG3, by rw [← HDR.out]; exact own_tk ho5' ht1 (by decide), (TKeep.of_below hbO2).trans ht1, ((((hb3X.trans (hbO2.mono hb3X.size)).setCell (p := ⟨g, 3, none⟩) hg3 _).setCell (p := ⟨g, 2, none⟩) hg3 _).setCell (p := ⟨g, 4, none⟩) hg3 _)⟩
        · skip
          have q9 := hc2 _ (hbd)
          go_simp
          clear q9
          refine hK.out _ _ (hS2 _ (hbd)) (fun hHeld => ?_)
          clear hK K
          (try simp only [Act.put, lzT, lzZ, lzS])
          (refine wpAnyH_tk 18 (some 57) (v := ?_) rfl rfl ?_ ?_; rotate_left; (focus (intro wq hSw; clear hSw; go_simp; all_goals (with_reducible rfl))); simp only [Act.put, lzT, lzZ, lzS])
          refine wpAnyH_ready (rs := [12]) (by kernel_rfl) (by simp) ?_
          refine AllReadyH.cons (o := _) rfl (fun K hK => ?_) AllReadyH.nil
          go_simp
          (go_at_call 45; refine (clone_Txs (some ⟨go, 0, none⟩) 0 0 (D.op.drop bn) _ (HTD0.out _) (by omega)).mono ?_; rintro e wo ⟨vo, rfl, ho5, hbO⟩; obtain ⟨Ao, co, eo, -⟩ := ho5.txs (by rw [HNO.out]; omega); rw [HNO.out] at eo; subst eo)
          have hbO2 := bel_trans (hbd) hbO
          have ho5' := ho5.mono (B' := X2.heap.size) ((hbd).size)
          refine hK.out _ _ (hS2 _ hbO2) (fun hHeld => ?_)
          clear hK K
          (try simp only [Act.put, lzT, lzZ, lzS])
          (refine wpAnyH_tk 19 (some 58) (v := ?_) rfl rfl ?_ ?_; rotate_left; (focus (intro wq hSw; clear hSw; go_simp; all_goals (with_reducible rfl))); simp only [Act.put, lzT, lzZ, lzS])
          (refine wpAnyH_tk 20 (some 59) (v := ?_) rfl rfl ?_ ?_; rotate_left; (focus (intro wq hSw; clear hSw; go_simp; all_goals (with_reducible rfl))); simp only [Act.put, lzT, lzZ, lzS])
          (refine wpAnyH_tk 21 (some 60) (v := ?_) rfl rfl ?_ ?_; rotate_left; (focus (intro wq hSw; clear hSw; go_simp; all_goals (with_reducible rfl))); simp only [Act.put, lzT, lzZ, lzS])
          refine wpAnyH_ready (rs := [22]) (by kernel_rfl) (by simp) ?_
          refine AllReadyH.cons (o := _) rfl (fun K hK => ?_) AllReadyH.nil
          have hG0 := HG.out.up hbO2
          have hs0 := hS2 _ hbO2
          have qf := hG0.frozen
          have ql := hG0.lt
          have q9 := hG0.box.2 3 _ rfl
          go_simp
          clear qf ql q9
          have hG1 := hG0.set_ 3 (.slice Ao no co)
          have hs1 := hS4 _ 3 (.slice Ao no co) hs0
          refine hK.out _ _ (hs1) (fun hHeld => ?_)
          clear hK K
          (try simp only [Act.put, lzT, lzZ, lzS])
          (refine wpAnyH_tk 23 (some 61) (v := ?_) rfl rfl ?_ ?_; rotate_left; (focus (intro wq hSw; clear hSw; go_simp; all_goals (with_reducible rfl))); simp only [Act.put, lzT, lzZ, lzS])
          (refine wpAnyH_tk 24 (some 62) (v := ?_) rfl rfl ?_ ?_; rotate_left; (focus (intro wq hSw; clear hSw; go_simp; all_goals (with_reducible rfl))); simp only [Act.put, lzT, lzZ, lzS])
          (refine wpAnyH_tk 25 (some 63) (v := ?_) rfl rfl ?_ ?_; rotate_left; (focus (intro wq hSw; clear hSw; go_simp; all_goals (with_reducible rfl))); simp only [Act.put, lzT, lzZ, lzS])
          refine wpAnyH_ready (rs := [26]) (by kernel_rfl) (by simp) ?_
          refine AllReadyH.cons (o := _) rfl (fun K hK => ?_) AllReadyH.nil
          have qf := hG1.frozen
          have ql := hG1.lt
          have q9 := hG1.box.2 2 _ rfl
          go_simp
          clear qf ql q9
          have hG2 := hG1.set_ 2 (.int .i64 (D.next + 1))
          have hs2 := hS4 _ 2 (.int .i64 (D.next + 1)) hs1
          refine hK.out _ _ (hs2) (fun hHeld => ?_)
          clear hK K
          (try simp only [Act.put, lzT, lzZ, lzS])
          (refine wpAnyH_tk 27 (some 64) (v := ?_) rfl rfl ?_ ?_; rotate_left; (focus (intro wq hSw; clear hSw; go_simp; all_goals (with_reducible rfl))); simp only [Act.put, lzT, lzZ, lzS])
          (refine wpAnyH_tk 28 (some 65) (v := ?_) rfl rfl ?_ ?_; rotate_left; (focus (intro wq hSw; clear hSw; go_simp; all_goals (with_reducible rfl))); simp only [Act.put, lzT, lzZ, lzS])
          (refine wpAnyH_tk 29 (some 66) (v := ?_) rfl rfl ?_ ?_; rotate_left; (focus (intro wq hSw; clear hSw; go_simp; all_goals (with_reducible rfl))); simp only [Act.put, lzT, lzZ, lzS])
          refine wpAnyH_ready (rs := [30]) (by kernel_rfl) (by simp) ?_
          refine AllReadyH.cons (o := _) rfl (fun K hK => ?_) AllReadyH.nil
          have qf := hG2.frozen
          have ql := hG2.lt
          have q9 := hG2.box.2 4 _ rfl
          go_simp
          clear qf ql q9
          have hG3 := hG2.set_ 4 (.int .i64 0)
          have hs3 := hS4 _ 4 (.int .i64 0) hs2
          refine hK.out _ _ (hs3) (fun hHeld => ?_)
          clear hK K
          (try simp only [Act.put, lzT, lzZ, lzS])
          refine wpAnyH_done (by kernel_rfl) ?_ _
          go_wp2_with fail
          go_meet
          have ht1 := ((TKeep.setg (o := 3) (u := .slice Ao no co) hG0).trans (TKeep.setg (o := 2) (u := .int .i64 (D.next + 1)) hG1)).trans (TKeep.setg (o := 4) (u := .int .i64 0) hG2)
          exact ⟨Ao, no, co, hG3, by rw [← HDR.out]; exact own_tk ho5' ht1 (by decide), (TKeep.of_below hbO2).trans ht1, ((((hb3X.trans (hbO2.mono hb3X.size)).setCell (p := ⟨g, 3, none⟩) hg3 _).setCell (p := ⟨g, 2, none⟩) hg3 _).setCell (p := ⟨g, 4, none⟩) hg3 _)⟩
      · skip
        have q9 := hc2 _ (hbd)
        go_simp
        clear q9
        refine hK.out _ _ (hS2 _ (hbd)) (fun hHeld => ?_)
        clear hK K
        (try simp only [Act.put, lzT, lzZ, lzS])
        (refine wpAnyH_tk 18 (some 57) (v := ?_) rfl rfl ?_ ?_; rotate_left; (focus (intro wq hSw; clear hSw; go_simp; all_goals (with_reducible rfl))); simp only [Act.put, lzT, lzZ, lzS])
        refine wpAnyH_ready (rs := [7]) (by kernel_rfl) (by simp) ?_
        refine AllReadyH.cons (o := _) rfl (fun K hK => ?_) AllReadyH.nil
        have q9 := hc3 _ (hbd)
        go_simp
        clear q9
        refine hK.out _ _ (hS2 _ (hbd)) (fun hHeld => ?_)
        clear hK K
        (try simp only [Act.put, lzT, lzZ, lzS])
        (refine wpAnyH_tk 11 (some 50) (v := ?_) rfl rfl ?_ ?_; rotate_left; (focus (intro wq hSw; clear hSw; go_simp; all_goals (with_reducible rfl))); simp only [Act.put, lzT, lzZ, lzS])
        refine wpAnyH_ready (rs := [12]) (by kernel_rfl) (by simp) ?_
        refine AllReadyH.cons (o := _) rfl (fun K hK => ?_) AllReadyH.nil
        go_simp
        (go_at_call 45; refine (clone_Txs (some ⟨go, 0, none⟩) 0 0 (D.op.drop bn) _ (HTD0.out _) (by omega)).mono ?_; rintro e wo ⟨vo, rfl, ho5, hbO⟩; obtain ⟨Ao, co, eo, -⟩ := ho5.txs (by rw [HNO.out]; omega); rw [HNO.out] at eo; subst eo)
        have hbO2 := bel_trans (hbd) hbO
        have ho5' := ho5.mono (B' := X2.heap.size) ((hbd).size)
        refine hK.out _ _ (hS2 _ hbO2) (fun hHeld => ?_)
        clear hK K
        (try simp only [Act.put, lzT, lzZ, lzS])
        (refine wpAnyH_tk 19 (some 58) (v := ?_) rfl rfl ?_ ?_; rotate_left; (focus (intro wq hSw; clear hSw; go_simp; all_goals (with_reducible rfl))); simp only [Act.put, lzT, lzZ, lzS])
        (refine wpAnyH_tk 20 (some 59) (v := ?_) rfl rfl ?_ ?_; rotate_left; (focus (intro wq hSw; clear hSw; go_simp; all_goals (with_reducible rfl))); simp only [Act.put, lzT, lzZ, lzS])
        (refine wpAnyH_tk 21 (some 60) (v := ?_) rfl rfl ?_ ?_; rotate_left; (focus (intro wq hSw; clear hSw; go_simp; all_goals (with_reducible rfl))); simp only [Act.put, lzT, lzZ, lzS])
        refine wpAnyH_ready (rs := [22]) (by kernel_rfl) (by simp) ?_
        refine AllReadyH.cons (o := _) rfl (fun K hK => ?_) AllReadyH.nil
        have hG0 := HG.out.up hbO2
        have hs0 := hS2 _ hbO2
        have qf := hG0.frozen
        have ql := hG0.lt
        have q9 := hG0.box.2 3 _ rfl
        go_simp
        clear qf ql q9
        have hG1 := hG0.set_ 3 (.slice Ao no co)
        have hs1 := hS4 _ 3 (.slice Ao no co) hs0
        refine hK.out _ _ (hs1) (fun hHeld => ?_)
        clear hK K
        (try simp only [Act.put, lzT, lzZ, lzS])
        (refine wpAnyH_tk 23 (some 61) (v := ?_) rfl rfl ?_ ?_; rotate_left; (focus (intro wq hSw; clear hSw; go_simp; all_goals (with_reducible rfl))); simp only [Act.put, lzT, lzZ, lzS])
        (refine wpAnyH_tk 24 (some 62) (v := ?_) rfl rfl ?_ ?_; rotate_left; (focus (intro wq hSw; clear hSw; go_simp; all_goals (with_reducible rfl))); simp only [Act.put, lzT, lzZ, lzS])
        (refine wpAnyH_tk 25 (some 63) (v := ?_) rfl rfl ?_ ?_; rotate_left; (focus (intro wq hSw; clear hSw; go_simp; all_goals (with_reducible rfl))); simp only [Act.put, lzT, lzZ, lzS])
        refine wpAnyH_ready (rs := [26]) (by kernel_rfl) (by simp) ?_
        refine AllReadyH.cons (o := _) rfl (fun K hK => ?_) AllReadyH.nil
        have qf := hG1.frozen
        have ql := hG1.lt
        have q9 := hG1.box.2 2 _ rfl
        go_simp
        clear qf ql q9
        have hG2 := hG1.set_ 2 (.int .i64 (D.next + 1))
        have hs2 := hS4 _ 2 (.int .i64 (D.next + 1)) hs1
        refine hK.out _ _ (hs2) (fun hHeld => ?_)
        clear hK K
        (try simp only [Act.put, lzT, lzZ, lzS])
        (refine wpAnyH_tk 27 (some 64) (v := ?_) rfl rfl ?_ ?_; rotate_left; (focus (intro wq hSw; clear hSw; go_simp; all_goals (with_reducible rfl))); simp only [Act.put, lzT, lzZ, lzS])
        (refine wpAnyH_tk 28 (some 65) (v := ?_) rfl rfl ?_ ?_; rotate_left; (focus (intro wq hSw; clear hSw; go_simp; all_goals (with_reducible rfl))); simp only [Act.put, lzT, lzZ, lzS])
        (refine wpAnyH_tk 29 (some 66) (v := ?_) rfl rfl ?_ ?_; rotate_left; (focus (intro wq hSw; clear hSw; go_simp; all_goals (with_reducible rfl))); simp only [Act.put, lzT, lzZ, lzS])
        refine wpAnyH_ready (rs := [30]) (by kernel_rfl) (by simp) ?_
        refine AllReadyH.cons (o := _) rfl (fun K hK => ?_) AllReadyH.nil
        have qf := hG2.frozen
        have ql := hG2.lt
        have q9 := hG2.box.2 4 _ rfl
        go_simp
        clear qf ql q9
        have hG3 := hG2.set_ 4 (.int .i64 0)
        have hs3 := hS4 _ 4 (.int .i64 0) hs2
        refine hK.out _ _ (hs3) (fun hHeld => ?_)
        clear hK K
        (try simp only [Act.put, lzT, lzZ, lzS])
        refine wpAnyH_done (by kernel_rfl) ?_ _
        go_wp2_with fail
        go_meet
        have ht1 := ((TKeep.setg (o := 3) (u := .slice Ao no co) hG0).trans (TKeep.setg (o := 2) (u := .int .i64 (D.next + 1)) hG1)).trans (TKeep.setg (o := 4) (u := .int .i64 0) hG2)
        exact ⟨Ao, no, co, hG3, by rw [← HDR.out]; exact own_tk ho5' ht1 (by decide), (TKeep.of_below hbO2).trans ht1, ((((hb3X.trans (hbO2.mono hb3X.size)).setCell (p := ⟨g, 3, none⟩) hg3 _).setCell (p := ⟨g, 2, none⟩) hg3 _).setCell (p := ⟨g, 4, none⟩) hg3 _)⟩
    have hcap2 : bn < oc := by omega
    refine wp_region_held_drew (S := S) (by kernel_rfl) (hS2 _ (bel_drew (Below.refl _ _))) (fun hHeld => ?_)
    have hbd : Below X2.heap.size X2 X2.drew := bel_drew (Below.refl _ _)
    have hZ := hHeld
    generalize X2.drew = Z at *
    (refine wpAnyH_tk 0 (some 39) (v := ?_) rfl rfl ?_ ?_; rotate_left; (focus (intro wq hSw; clear hSw; go_simp; all_goals (with_reducible rfl))); simp only [Act.put, lzT, lzZ, lzS])
    (refine wpAnyH_tk 1 (some 40) (v := ?_) rfl rfl ?_ ?_; rotate_left; (focus (intro wq hSw; clear hSw; go_simp; all_goals (with_reducible rfl))); simp only [Act.put, lzT, lzZ, lzS])
    (refine wpAnyH_tk 2 (some 41) (v := ?_) rfl rfl ?_ ?_; rotate_left; (focus (intro wq hSw; clear hSw; go_simp; all_goals (with_reducible rfl))); simp only [Act.put, lzT, lzZ, lzS])
    (refine wpAnyH_tk 3 (some 42) (v := ?_) rfl rfl ?_ ?_; rotate_left; (focus (intro wq hSw; clear hSw; go_simp; all_goals (with_reducible rfl))); simp only [Act.put, lzT, lzZ, lzS])
    (refine wpAnyH_tk 4 (some 43) (v := ?_) rfl rfl ?_ ?_; rotate_left; (focus (intro wq hSw; clear hSw; go_simp; all_goals (with_reducible rfl))); simp only [Act.put, lzT, lzZ, lzS])
    (refine wpAnyH_tk 5 (some 44) (v := ?_) rfl rfl ?_ ?_; rotate_left; (focus (intro wq hSw; clear hSw; go_simp; all_goals (with_reducible rfl))); simp only [Act.put, lzT, lzZ, lzS])
    (refine wpAnyH_tk 6 (some 45) (v := ?_) rfl rfl ?_ ?_; rotate_left; (focus (intro wq hSw; clear hSw; go_simp; all_goals (with_reducible rfl))); simp only [Act.put, lzT, lzZ, lzS])
    (refine wpAnyH_tk 8 (some 47) (v := ?_) rfl rfl ?_ ?_; rotate_left; (focus (intro wq hSw; clear hSw; go_simp; all_goals (with_reducible rfl))); simp only [Act.put, lzT, lzZ, lzS])
    (refine wpAnyH_tk 9 (some 48) (v := ?_) rfl rfl ?_ ?_; rotate_left; (focus (intro wq hSw; have q9 := hS1 wq hSw; clear hSw; go_simp; all_goals (with_reducible rfl))); simp only [Act.put, lzT, lzZ, lzS])
    (refine wpAnyH_tk 10 (some 49) (v := ?_) rfl rfl ?_ ?_; rotate_left; (focus (intro wq hSw; clear hSw; go_simp; all_goals (with_reducible rfl))); simp only [Act.put, lzT, lzZ, lzS])
    (refine wpAnyH_tk 13 (some 52) (v := ?_) rfl rfl ?_ ?_; rotate_left; (focus (intro wq hSw; clear hSw; go_simp; all_goals (with_reducible rfl))); simp only [Act.put, lzT, lzZ, lzS])
    (refine wpAnyH_tk 14 (some 53) (v := ?_) rfl rfl ?_ ?_; rotate_left; (focus (intro wq hSw; clear hSw; go_simp; all_goals (with_reducible rfl))); simp only [Act.put, lzT, lzZ, lzS])
    (refine wpAnyH_tk 15 (some 54) (v := ?_) rfl rfl ?_ ?_; rotate_left; (focus (intro wq hSw; clear hSw; go_simp; all_goals (with_reducible rfl))); simp only [Act.put, lzT, lzZ, lzS])
    (refine wpAnyH_tk 16 (some 55) (v := ?_) rfl rfl ?_ ?_; rotate_left; (focus (intro wq hSw; clear hSw; go_simp; all_goals (with_reducible rfl))); simp only [Act.put, lzT, lzZ, lzS])
    refine wpAnyH_ready (rs := [7, 17]) (by kernel_rfl) (by simp) ?_
    refine AllReadyH.cons (o := _) rfl (fun K hK => ?_) (AllReadyH.cons (o := _) rfl (fun K hK => ?_) AllReadyH.nil)
    · skip
      have q9 := hc3 _ (hbd)
      go_simp
      clear q9
      refine hK.out _ _ (hS2 _ (hbd)) (fun hHeld => ?_)
      clear hK K
      (try simp only [Act.put, lzT, lzZ, lzS])
      (refine wpAnyH_tk 11 (some 50) (v := ?_) rfl rfl ?_ ?_; rotate_left; (focus (intro wq hSw; clear hSw; go_simp; all_goals (with_reducible rfl))); simp only [Act.put, lzT, lzZ, lzS])
      refine wpAnyH_ready (rs := [12, 17]) (by kernel_rfl) (by simp) ?_
      refine AllReadyH.cons (o := _) rfl (fun K hK => ?_) (AllReadyH.cons (o := _) rfl (fun K hK => ?_) AllReadyH.nil)
      · skip
        go_simp
        (go_at_call 45; refine (clone_Txs (some ⟨go, bn * 4, none⟩) (on - bn) _ (D.op.drop bn) _ (HTD.out _ (hbd)) (by omega)).mono ?_; rintro e wo ⟨vo, rfl, ho5, hbO⟩; obtain ⟨Ao, co, eo, -⟩ := ho5.txs (by rw [HNO.out]; omega); rw [HNO.out] at eo; subst eo)
        have hbO2 := bel_trans (hbd) hbO
        have ho5' := ho5.mono (B' := X2.heap.size) ((hbd).size)
        refine hK.out _ _ (hS2 _ hbO2) (fun hHeld => ?_)
        clear hK K
        (try simp only [Act.put, lzT, lzZ, lzS])
        refine wpAnyH_ready (rs := [17]) (by kernel_rfl) (by simp) ?_
        refine AllReadyH.cons (o := _) rfl (fun K hK => ?_) AllReadyH.nil
        have q9 := hc2 _ (hbO2)
        go_simp
        clear q9
        refine hK.out _ _ (hS2 _ (hbO2)) (fun hHeld => ?_)
        clear hK K
        (try simp only [Act.put, lzT, lzZ, lzS])
        (refine wpAnyH_tk 18 (some 57) (v := ?_) rfl rfl ?_ ?_; rotate_left; (focus (intro wq hSw; clear hSw; go_simp; all_goals (with_reducible rfl))); simp only [Act.put, lzT, lzZ, lzS])
        (refine wpAnyH_tk 19 (some 58) (v := ?_) rfl rfl ?_ ?_; rotate_left; (focus (intro wq hSw; clear hSw; go_simp; all_goals (with_reducible rfl))); simp only [Act.put, lzT, lzZ, lzS])
        (refine wpAnyH_tk 20 (some 59) (v := ?_) rfl rfl ?_ ?_; rotate_left; (focus (intro wq hSw; clear hSw; go_simp; all_goals (with_reducible rfl))); simp only [Act.put, lzT, lzZ, lzS])
        (refine wpAnyH_tk 21 (some 60) (v := ?_) rfl rfl ?_ ?_; rotate_left; (focus (intro wq hSw; clear hSw; go_simp; all_goals (with_reducible rfl))); simp only [Act.put, lzT, lzZ, lzS])
        refine wpAnyH_ready (rs := [22]) (by kernel_rfl) (by simp) ?_
        refine AllReadyH.cons (o := _) rfl (fun K hK => ?_) AllReadyH.nil
        have hG0 := HG.out.up hbO2
        have hs0 := hS2 _ hbO2
        have qf := hG0.frozen
        have ql := hG0.lt
        have q9 := hG0.box.2 3 _ rfl
        go_simp
        clear qf ql q9
        have hG1 := hG0.set_ 3 (.slice Ao no co)
        have hs1 := hS4 _ 3 (.slice Ao no co) hs0
        refine hK.out _ _ (hs1) (fun hHeld => ?_)
        clear hK K
        (try simp only [Act.put, lzT, lzZ, lzS])
        (refine wpAnyH_tk 23 (some 61) (v := ?_) rfl rfl ?_ ?_; rotate_left; (focus (intro wq hSw; clear hSw; go_simp; all_goals (with_reducible rfl))); simp only [Act.put, lzT, lzZ, lzS])
        (refine wpAnyH_tk 24 (some 62) (v := ?_) rfl rfl ?_ ?_; rotate_left; (focus (intro wq hSw; clear hSw; go_simp; all_goals (with_reducible rfl))); simp only [Act.put, lzT, lzZ, lzS])
        (refine wpAnyH_tk 25 (some 63) (v := ?_) rfl rfl ?_ ?_; rotate_left; (focus (intro wq hSw; clear hSw; go_simp; all_goals (with_reducible rfl))); simp only [Act.put, lzT, lzZ, lzS])
        refine wpAnyH_ready (rs := [26]) (by kernel_rfl) (by simp) ?_
        refine AllReadyH.cons (o := _) rfl (fun K hK => ?_) AllReadyH.nil
        have qf := hG1.frozen
        have ql := hG1.lt
        have q9 := hG1.box.2 2 _ rfl
        go_simp
        clear qf ql q9
        have hG2 := hG1.set_ 2 (.int .i64 (D.next + 1))
        have hs2 := hS4 _ 2 (.int .i64 (D.next + 1)) hs1
        refine hK.out _ _ (hs2) (fun hHeld => ?_)
        clear hK K
        (try simp only [Act.put, lzT, lzZ, lzS])
        (refine wpAnyH_tk 27 (some 64) (v := ?_) rfl rfl ?_ ?_; rotate_left; (focus (intro wq hSw; clear hSw; go_simp; all_goals (with_reducible rfl))); simp only [Act.put, lzT, lzZ, lzS])
        (refine wpAnyH_tk 28 (some 65) (v := ?_) rfl rfl ?_ ?_; rotate_left; (focus (intro wq hSw; clear hSw; go_simp; all_goals (with_reducible rfl))); simp only [Act.put, lzT, lzZ, lzS])
        (refine wpAnyH_tk 29 (some 66) (v := ?_) rfl rfl ?_ ?_; rotate_left; (focus (intro wq hSw; clear hSw; go_simp; all_goals (with_reducible rfl))); simp only [Act.put, lzT, lzZ, lzS])
        refine wpAnyH_ready (rs := [30]) (by kernel_rfl) (by simp) ?_
        refine AllReadyH.cons (o := _) rfl (fun K hK => ?_) AllReadyH.nil
        have qf := hG2.frozen
        have ql := hG2.lt
        have q9 := hG2.box.2 4 _ rfl
        go_simp
        clear qf ql q9
        have hG3 := hG2.set_ 4 (.int .i64 0)
        have hs3 := hS4 _ 4 (.int .i64 0) hs2
        refine hK.out _ _ (hs3) (fun hHeld => ?_)
        clear hK K
        (try simp only [Act.put, lzT, lzZ, lzS])
        refine wpAnyH_done (by kernel_rfl) ?_ _
        go_wp2_with fail
        go_meet
        have ht1 := ((TKeep.setg (o := 3) (u := .slice Ao no co) hG0).trans (TKeep.setg (o := 2) (u := .int .i64 (D.next + 1)) hG1)).trans (TKeep.setg (o := 4) (u := .int .i64 0) hG2)
        exact ⟨Ao, no, co, hG3, by rw [← HDR.out]; exact own_tk ho5' ht1 (by decide), (TKeep.of_below hbO2).trans ht1, ((((hb3X.trans (hbO2.mono hb3X.size)).setCell (p := ⟨g, 3, none⟩) hg3 _).setCell (p := ⟨g, 2, none⟩) hg3 _).setCell (p := ⟨g, 4, none⟩) hg3 _)⟩
      · skip
        have q9 := hc2 _ (hbd)
        go_simp
        clear q9
        refine hK.out _ _ (hS2 _ (hbd)) (fun hHeld => ?_)
        clear hK K
        (try simp only [Act.put, lzT, lzZ, lzS])
        (refine wpAnyH_tk 18 (some 57) (v := ?_) rfl rfl ?_ ?_; rotate_left; (focus (intro wq hSw; clear hSw; go_simp; all_goals (with_reducible rfl))); simp only [Act.put, lzT, lzZ, lzS])
        refine wpAnyH_ready (rs := [12]) (by kernel_rfl) (by simp) ?_
        refine AllReadyH.cons (o := _) rfl (fun K hK => ?_) AllReadyH.nil
        go_simp
        (go_at_call 45; refine (clone_Txs (some ⟨go, bn * 4, none⟩) (on - bn) _ (D.op.drop bn) _ (HTD.out _ (hbd)) (by omega)).mono ?_; rintro e wo ⟨vo, rfl, ho5, hbO⟩; obtain ⟨Ao, co, eo, -⟩ := ho5.txs (by rw [HNO.out]; omega); rw [HNO.out] at eo; subst eo)
        have hbO2 := bel_trans (hbd) hbO
        have ho5' := ho5.mono (B' := X2.heap.size) ((hbd).size)
        refine hK.out _ _ (hS2 _ hbO2) (fun hHeld => ?_)
        clear hK K
        (try simp only [Act.put, lzT, lzZ, lzS])
        (refine wpAnyH_tk 19 (some 58) (v := ?_) rfl rfl ?_ ?_; rotate_left; (focus (intro wq hSw; clear hSw; go_simp; all_goals (with_reducible rfl))); simp only [Act.put, lzT, lzZ, lzS])
        (refine wpAnyH_tk 20 (some 59) (v := ?_) rfl rfl ?_ ?_; rotate_left; (focus (intro wq hSw; clear hSw; go_simp; all_goals (with_reducible rfl))); simp only [Act.put, lzT, lzZ, lzS])
        (refine wpAnyH_tk 21 (some 60) (v := ?_) rfl rfl ?_ ?_; rotate_left; (focus (intro wq hSw; clear hSw; go_simp; all_goals (with_reducible rfl))); simp only [Act.put, lzT, lzZ, lzS])
        refine wpAnyH_ready (rs := [22]) (by kernel_rfl) (by simp) ?_
        refine AllReadyH.cons (o := _) rfl (fun K hK => ?_) AllReadyH.nil
        have hG0 := HG.out.up hbO2
        have hs0 := hS2 _ hbO2
        have qf := hG0.frozen
        have ql := hG0.lt
        have q9 := hG0.box.2 3 _ rfl
        go_simp
        clear qf ql q9
        have hG1 := hG0.set_ 3 (.slice Ao no co)
        have hs1 := hS4 _ 3 (.slice Ao no co) hs0
        refine hK.out _ _ (hs1) (fun hHeld => ?_)
        clear hK K
        (try simp only [Act.put, lzT, lzZ, lzS])
        (refine wpAnyH_tk 23 (some 61) (v := ?_) rfl rfl ?_ ?_; rotate_left; (focus (intro wq hSw; clear hSw; go_simp; all_goals (with_reducible rfl))); simp only [Act.put, lzT, lzZ, lzS])
        (refine wpAnyH_tk 24 (some 62) (v := ?_) rfl rfl ?_ ?_; rotate_left; (focus (intro wq hSw; clear hSw; go_simp; all_goals (with_reducible rfl))); simp only [Act.put, lzT, lzZ, lzS])
        (refine wpAnyH_tk 25 (some 63) (v := ?_) rfl rfl ?_ ?_; rotate_left; (focus (intro wq hSw; clear hSw; go_simp; all_goals (with_reducible rfl))); simp only [Act.put, lzT, lzZ, lzS])
        refine wpAnyH_ready (rs := [26]) (by kernel_rfl) (by simp) ?_
        refine AllReadyH.cons (o := _) rfl (fun K hK => ?_) AllReadyH.nil
        have qf := hG1.frozen
        have ql := hG1.lt
        have q9 := hG1.box.2 2 _ rfl
        go_simp
        clear qf ql q9
        have hG2 := hG1.set_ 2 (.int .i64 (D.next + 1))
        have hs2 := hS4 _ 2 (.int .i64 (D.next + 1)) hs1
        refine hK.out _ _ (hs2) (fun hHeld => ?_)
        clear hK K
        (try simp only [Act.put, lzT, lzZ, lzS])
        (refine wpAnyH_tk 27 (some 64) (v := ?_) rfl rfl ?_ ?_; rotate_left; (focus (intro wq hSw; clear hSw; go_simp; all_goals (with_reducible rfl))); simp only [Act.put, lzT, lzZ, lzS])
        (refine wpAnyH_tk 28 (some 65) (v := ?_) rfl rfl ?_ ?_; rotate_left; (focus (intro wq hSw; clear hSw; go_simp; all_goals (with_reducible rfl))); simp only [Act.put, lzT, lzZ, lzS])
        (refine wpAnyH_tk 29 (some 66) (v := ?_) rfl rfl ?_ ?_; rotate_left; (focus (intro wq hSw; clear hSw; go_simp; all_goals (with_reducible rfl))); simp only [Act.put, lzT, lzZ, lzS])
        refine wpAnyH_ready (rs := [30]) (by kernel_rfl) (by simp) ?_
        refine AllReadyH.cons (o := _) rfl (fun K hK => ?_) AllReadyH.nil
        have qf := hG2.frozen
        have ql := hG2.lt
        have q9 := hG2.box.2 4 _ rfl
        go_simp
        clear qf ql q9
        have hG3 := hG2.set_ 4 (.int .i64 0)
        have hs3 := hS4 _ 4 (.int .i64 0) hs2
        refine hK.out _ _ (hs3) (fun hHeld => ?_)
        clear hK K
        (try simp only [Act.put, lzT, lzZ, lzS])
        refine wpAnyH_done (by kernel_rfl) ?_ _
        go_wp2_with fail
        go_meet
        have ht1 := ((TKeep.setg (o := 3) (u := .slice Ao no co) hG0).trans (TKeep.setg (o := 2) (u := .int .i64 (D.next + 1)) hG1)).trans (TKeep.setg (o := 4) (u := .int .i64 0) hG2)
        exact ⟨Ao, no, co, hG3, by rw [← HDR.out]; exact own_tk ho5' ht1 (by decide), (TKeep.of_below hbO2).trans ht1, ((((hb3X.trans (hbO2.mono hb3X.size)).setCell (p := ⟨g, 3, none⟩) hg3 _).setCell (p := ⟨g, 2, none⟩) hg3 _).setCell (p := ⟨g, 4, none⟩) hg3 _)⟩
    · skip
      have q9 := hc2 _ (hbd)
      go_simp
      clear q9
      refine hK.out _ _ (hS2 _ (hbd)) (fun hHeld => ?_)
      clear hK K
      (try simp only [Act.put, lzT, lzZ, lzS])
      (refine wpAnyH_tk 18 (some 57) (v := ?_) rfl rfl ?_ ?_; rotate_left; (focus (intro wq hSw; clear hSw; go_simp; all_goals (with_reducible rfl))); simp only [Act.put, lzT, lzZ, lzS])
      refine wpAnyH_ready (rs := [7]) (by kernel_rfl) (by simp) ?_
      refine AllReadyH.cons (o := _) rfl (fun K hK => ?_) AllReadyH.nil
      have q9 := hc3 _ (hbd)
      go_simp
      clear q9
      refine hK.out _ _ (hS2 _ (hbd)) (fun hHeld => ?_)
      clear hK K
      (try simp only [Act.put, lzT, lzZ, lzS])
      (refine wpAnyH_tk 11 (some 50) (v := ?_) rfl rfl ?_ ?_; rotate_left; (focus (intro wq hSw; clear hSw; go_simp; all_goals (with_reducible rfl))); simp only [Act.put, lzT, lzZ, lzS])
      refine wpAnyH_ready (rs := [12]) (by kernel_rfl) (by simp) ?_
      refine AllReadyH.cons (o := _) rfl (fun K hK => ?_) AllReadyH.nil
      go_simp
      (go_at_call 45; refine (clone_Txs (some ⟨go, bn * 4, none⟩) (on - bn) _ (D.op.drop bn) _ (HTD.out _ (hbd)) (by omega)).mono ?_; rintro e wo ⟨vo, rfl, ho5, hbO⟩; obtain ⟨Ao, co, eo, -⟩ := ho5.txs (by rw [HNO.out]; omega); rw [HNO.out] at eo; subst eo)
      have hbO2 := bel_trans (hbd) hbO
      have ho5' := ho5.mono (B' := X2.heap.size) ((hbd).size)
      refine hK.out _ _ (hS2 _ hbO2) (fun hHeld => ?_)
      clear hK K
      (try simp only [Act.put, lzT, lzZ, lzS])
      (refine wpAnyH_tk 19 (some 58) (v := ?_) rfl rfl ?_ ?_; rotate_left; (focus (intro wq hSw; clear hSw; go_simp; all_goals (with_reducible rfl))); simp only [Act.put, lzT, lzZ, lzS])
      (refine wpAnyH_tk 20 (some 59) (v := ?_) rfl rfl ?_ ?_; rotate_left; (focus (intro wq hSw; clear hSw; go_simp; all_goals (with_reducible rfl))); simp only [Act.put, lzT, lzZ, lzS])
      (refine wpAnyH_tk 21 (some 60) (v := ?_) rfl rfl ?_ ?_; rotate_left; (focus (intro wq hSw; clear hSw; go_simp; all_goals (with_reducible rfl))); simp only [Act.put, lzT, lzZ, lzS])
      refine wpAnyH_ready (rs := [22]) (by kernel_rfl) (by simp) ?_
      refine AllReadyH.cons (o := _) rfl (fun K hK => ?_) AllReadyH.nil
      have hG0 := HG.out.up hbO2
      have hs0 := hS2 _ hbO2
      have qf := hG0.frozen
      have ql := hG0.lt
      have q9 := hG0.box.2 3 _ rfl
      go_simp
      clear qf ql q9
      have hG1 := hG0.set_ 3 (.slice Ao no co)
      have hs1 := hS4 _ 3 (.slice Ao no co) hs0
      refine hK.out _ _ (hs1) (fun hHeld => ?_)
      clear hK K
      (try simp only [Act.put, lzT, lzZ, lzS])
      (refine wpAnyH_tk 23 (some 61) (v := ?_) rfl rfl ?_ ?_; rotate_left; (focus (intro wq hSw; clear hSw; go_simp; all_goals (with_reducible rfl))); simp only [Act.put, lzT, lzZ, lzS])
      (refine wpAnyH_tk 24 (some 62) (v := ?_) rfl rfl ?_ ?_; rotate_left; (focus (intro wq hSw; clear hSw; go_simp; all_goals (with_reducible rfl))); simp only [Act.put, lzT, lzZ, lzS])
      (refine wpAnyH_tk 25 (some 63) (v := ?_) rfl rfl ?_ ?_; rotate_left; (focus (intro wq hSw; clear hSw; go_simp; all_goals (with_reducible rfl))); simp only [Act.put, lzT, lzZ, lzS])
      refine wpAnyH_ready (rs := [26]) (by kernel_rfl) (by simp) ?_
      refine AllReadyH.cons (o := _) rfl (fun K hK => ?_) AllReadyH.nil
      have qf := hG1.frozen
      have ql := hG1.lt
      have q9 := hG1.box.2 2 _ rfl
      go_simp
      clear qf ql q9
      have hG2 := hG1.set_ 2 (.int .i64 (D.next + 1))
      have hs2 := hS4 _ 2 (.int .i64 (D.next + 1)) hs1
      refine hK.out _ _ (hs2) (fun hHeld => ?_)
      clear hK K
      (try simp only [Act.put, lzT, lzZ, lzS])
      (refine wpAnyH_tk 27 (some 64) (v := ?_) rfl rfl ?_ ?_; rotate_left; (focus (intro wq hSw; clear hSw; go_simp; all_goals (with_reducible rfl))); simp only [Act.put, lzT, lzZ, lzS])
      (refine wpAnyH_tk 28 (some 65) (v := ?_) rfl rfl ?_ ?_; rotate_left; (focus (intro wq hSw; clear hSw; go_simp; all_goals (with_reducible rfl))); simp only [Act.put, lzT, lzZ, lzS])
      (refine wpAnyH_tk 29 (some 66) (v := ?_) rfl rfl ?_ ?_; rotate_left; (focus (intro wq hSw; clear hSw; go_simp; all_goals (with_reducible rfl))); simp only [Act.put, lzT, lzZ, lzS])
      refine wpAnyH_ready (rs := [30]) (by kernel_rfl) (by simp) ?_
      refine AllReadyH.cons (o := _) rfl (fun K hK => ?_) AllReadyH.nil
      have qf := hG2.frozen
      have ql := hG2.lt
      have q9 := hG2.box.2 4 _ rfl
      go_simp
      clear qf ql q9
      have hG3 := hG2.set_ 4 (.int .i64 0)
      have hs3 := hS4 _ 4 (.int .i64 0) hs2
      refine hK.out _ _ (hs3) (fun hHeld => ?_)
      clear hK K
      (try simp only [Act.put, lzT, lzZ, lzS])
      refine wpAnyH_done (by kernel_rfl) ?_ _
      go_wp2_with fail
      go_meet
      have ht1 := ((TKeep.setg (o := 3) (u := .slice Ao no co) hG0).trans (TKeep.setg (o := 2) (u := .int .i64 (D.next + 1)) hG1)).trans (TKeep.setg (o := 4) (u := .int .i64 0) hG2)
      exact ⟨Ao, no, co, hG3, by rw [← HDR.out]; exact own_tk ho5' ht1 (by decide), (TKeep.of_below hbO2).trans ht1, ((((hb3X.trans (hbO2.mono hb3X.size)).setCell (p := ⟨g, 3, none⟩) hg3 _).setCell (p := ⟨g, 2, none⟩) hg3 _).setCell (p := ⟨g, 4, none⟩) hg3 _)⟩
  case rest =>
  obtain ⟨A1, n1, c1, hG1, hop1, htk1, hb1c⟩ := hcut
  obtain ⟨Xc, hXc⟩ : ∃ x, x = wc := ⟨_, rfl⟩
  subst hXc
  have HG1 := Lib.hid hG1
  have HOP1 := Lib.hid hop1
  have hbc : Below w.heap.size w Xc := hb3w.trans (hb1c.mono hb3w.size)
  have hgc := hG1.lt
  have HWc : Hid (WorkO Xc B ⟨⟨some ⟨go, 0, none⟩, on, oc⟩, ⟨tA, tn, tc⟩, ⟨eA, en, ec⟩, ⟨rA, rn, rc⟩⟩ D) := Lib.hid (HOX.out.tk htk1 twStep)
  have HBc : Hid (OwnX Xc w.heap.size (.slice bA bn bc) (D.op.take 8)) := Lib.hid (own_mono (own_tk HB2.out htk1 (by decide)) (by have := hbX.size; omega))
  have HQc := Lib.hid (HQ7.out.tk htk1 (by decide))
  have HVc := Lib.hid (HV1.out.tk htk1 (by decide))
  have hBc : B ≤ Xc.heap.size := Nat.le_trans hB hbc.size
  have HTXc : Hid (TxsR Xc bA bn (D.op.take 8)) := Lib.hid (by
    obtain ⟨A', c', e', h1, _⟩ := HBc.out.txs (by rw [HBN.out]; omega)
    injection e' with e1 e2 e3
    rw [HBN.out] at h1
    rw [e1]; exact h1)
  have b_0 := (HQc.out.box).2 0 _ rfl; have b_1 := (HQc.out.box).2 1 _ rfl; have b_2 := (HQc.out.box).2 2 _ rfl
  have hq7l := HQc.out.lt
  clear hG1 hop1 htk1 HOX HB2 HQ7 HV1 HG hgl
  go_upto_region 12 with (go_at_call 51; refine (step_hold g B A1 tA eA rA none bA n1 c1 tn tc en ec rn rc 0 0 bn bc ({ D with op := D.op.drop 8, next := D.next + 1, age := 0 }) d (nxD D) Xc HG1.out hBc HWc.out.he HS.out.he (MayHs.sorted (hdB_iff.1 HM.out.2.2.2.2.2.2.2.2.2.2.1)) HTXc.out (by omega)).mono ?_; rintro e wh ⟨Xh, A3, n3, c3, rfl, rfl, hbh, hhe⟩)
  obtain ⟨lw, hlw⟩ : ∃ lw, kposW D.wa d = lw := ⟨_, rfl⟩
  obtain ⟨yw, hyw⟩ : ∃ yw, khasW D.wa d = yw := ⟨_, rfl⟩
  have HLW := Lib.hid hlw
  have HYW := Lib.hid hyw
  have HTN : Hid (D.wa.length = tn) := Lib.hid HW.out.wa.1
  have htn : tn ≤ 700000000 := by rw [← HTN.out]; have := HRE.out; omega
  have hlwn : lw ≤ tn := by rw [← HLW.out, ← HTN.out]; exact cnt_le _ _
  clear hlw hyw
  have hGh := HG1.out.up hbh
  obtain ⟨Xd, hXd⟩ : ∃ Z, Z = Xh.setCell ⟨g, 7, none⟩ (.slice A3 n3 c3) := ⟨_, rfl⟩
  rw [← hXd]
  have hGd : Blk Xd g 97 [.int .i64 D.id, .int .i64 D.nodes, .int .i64 (D.next + 1), .slice A1 n1 c1, .int .i64 0, .int .i64 D.clock, .slice tA tn tc, .slice A3 n3 c3, .slice rA rn rc, .slice none 0 0] := by rw [hXd]; exact hGh.set_ 7 _
  have htkd : TKeep 97 Xc Xd := by rw [hXd]; exact (TKeep.of_below hbh).trans (TKeep.setg hGh)
  have hhd : OwnHs Xd B (.slice A3 n3 c3) (insAt D.he (kposH D.he d) ⟨d, nxD D⟩) := by rw [hXd]; exact hhe.tk (TKeep.setg hGh) twStep
  have hbXd : Below w.heap.size w Xd := by rw [hXd]; exact (hbc.trans (hbh.mono hbc.size)).setCell (p := ⟨g, 7, none⟩) (by show w.heap.size ≤ g; omega) _
  have HGd := Lib.hid hGd
  have HWd := Lib.hid (HWc.out.tk htkd twStep)
  have HBd := Lib.hid (own_tk HBc.out htkd (by decide))
  have HQd := Lib.hid (HQc.out.tk htkd (by decide))
  have HVd := Lib.hid (HVc.out.tk htkd (by decide))
  have HOPd : Hid (OwnX Xd X2.heap.size (.slice A1 n1 c1) (D.op.drop 8)) := Lib.hid (own_tk HOP1.out htkd (by decide))
  have HHd := Lib.hid hhd
  have hBd : B ≤ Xd.heap.size := Nat.le_trans hB hbXd.size
  have hgd := hGd.lt
  have hgXc : w.heap.size ≤ g := by omega
  have HSW : Hid (yw = false → sealW D d = insAt D.wa lw ⟨d, [D.id]⟩) := Lib.hid (fun hy => by unfold sealW; rw [HYW.out, hy, HLW.out]; rfl)
  have HSW2 : Hid (yw = true → sealW D d = D.wa) := Lib.hid (fun hy => by unfold sealW; rw [HYW.out, hy]; rfl)
  clear hXd hGh hGd htkd hhd HG1 HWc HBc HQc HVc HOP1 b_0 b_1 b_2 hq7l hbh hhe hgc
  have HWT : Hid (WaitsR Xd tA tn D.wa) := Lib.hid (HWd.out.work HS.out).wa
  have a_0 := (HGd.out.box).2 0 _ rfl; have a_1 := (HGd.out.box).2 1 _ rfl; have a_2 := (HGd.out.box).2 2 _ rfl; have a_3 := (HGd.out.box).2 3 _ rfl; have a_4 := (HGd.out.box).2 4 _ rfl; have a_5 := (HGd.out.box).2 5 _ rfl; have a_6 := (HGd.out.box).2 6 _ rfl; have a_7 := (HGd.out.box).2 7 _ rfl; have a_8 := (HGd.out.box).2 8 _ rfl; have a_9 := (HGd.out.box).2 9 _ rfl
  go_upto_if 82 with (go_at_call 52; refine (worker_wait tA tn tc D.wa d lw yw _ HWT.out (WaitsOk.sorted HM.out.2.2.2.2.2.2.2.2.2.1) (by omega) HLW.out HYW.out).mono ?_; rintro e wv ⟨rfl, hbv⟩)
  clear a_0 a_1 a_2 a_3 a_4 a_5 a_6 a_7 a_8 a_9
  go_cut [] from 81 to 103 (fun wx => ∃ (At : Option Addr) (nt ct : Nat), Blk wx g 97 [.int .i64 D.id, .int .i64 D.nodes, .int .i64 (D.next + 1), .slice A1 n1 c1, .int .i64 0, .int .i64 D.clock, .slice At nt ct, .slice A3 n3 c3, .slice rA rn rc, .slice none 0 0] ∧ OwnWs wx B (.slice At nt ct) (sealW D d) ∧ TKeep 97 Xd wx ∧ Below w.heap.size w wx)
  case first =>
    obtain ⟨qs, hqt⟩ := HWd.out.wa
    have HQT := Lib.hid hqt
    have HGv := Lib.hid (HGd.out.up hbv)
    have hgv := HGv.out.lt
    cases yw
    · have HSWf := Lib.hid (HSW.out rfl)
      clear hqt HSW HSW2
      go_upto_region 14 with fail
      obtain ⟨S, hS⟩ : ∃ S : World → Prop, S = fun Y => Y.cell? ⟨g, 0, none⟩ = some (.int .i64 D.id) := ⟨_, rfl⟩
      have hS1 : ∀ Y, S Y → Y.cell? ⟨g, 0, none⟩ = some (.int .i64 D.id) := fun Y h => by rw [hS] at h; exact h
      have hS2 : ∀ Y, Below Xd.heap.size Xd Y → S Y := fun Y hY => by rw [hS]; exact (HGd.out.up hY).box.2 0 _ rfl
      have hS4 : ∀ Y o u, S Y → S (Y.setCell ⟨g, o + 1, none⟩ u) := fun Y o u h => by rw [hS] at h ⊢; dsimp only at h ⊢; exact (World.cell?_setCell_other _ _ _ _ (by intro e; simp only [Addr.mk.injEq] at e; omega)).trans h
      have hc6 : ∀ Y, Below Xd.heap.size Xd Y → Y.cell? ⟨g, 6, none⟩ = some (.slice tA tn tc) := fun Y hY => (HGd.out.up hY).box.2 6 _ rfl
      have HRV : Hid (RowV Xd tA tn 2 (dcells dWait D.wa qs)) := Lib.hid (by
        have h9 : World.ownsRow Xd B 84 2 (.slice tA tn tc) D.wa.length (dcells dWait D.wa qs) := HQT.out.1
        rw [HTN.out] at h9
        obtain ⟨A2, c2, e2, hrv, _⟩ := own_row h9 (by omega)
        injection e2 with e3 e4 e5
        rw [e3]; exact hrv)
      clear hS
      refine wp_region_held_drew (S := S) (by kernel_rfl) (hS2 _ (bel_drew hbv)) (fun hHeld => ?_)
      have hbd : Below Xd.heap.size Xd wv.drew := bel_drew hbv
      have hZ := hHeld
      generalize wv.drew = Z at *
      (refine wpAnyH_tk 0 (some 83) (v := ?_) rfl rfl ?_ ?_; rotate_left; (focus (intro wq hSw; clear hSw; go_simp; all_goals (with_reducible rfl))); simp only [Act.put, lzT, lzZ, lzS])
      (refine wpAnyH_tk 1 (some 84) (v := ?_) rfl rfl ?_ ?_; rotate_left; (focus (intro wq hSw; clear hSw; go_simp; all_goals (with_reducible rfl))); simp only [Act.put, lzT, lzZ, lzS])
      (refine wpAnyH_tk 2 (some 85) (v := ?_) rfl rfl ?_ ?_; rotate_left; (focus (intro wq hSw; clear hSw; go_simp; all_goals (with_reducible rfl))); simp only [Act.put, lzT, lzZ, lzS])
      (refine wpAnyH_tk 3 (some 86) (v := ?_) rfl rfl ?_ ?_; rotate_left; (focus (intro wq hSw; clear hSw; go_simp; all_goals (with_reducible rfl))); simp only [Act.put, lzT, lzZ, lzS])
      (refine wpAnyH_tk 4 (some 87) (v := ?_) rfl rfl ?_ ?_; rotate_left; (focus (intro wq hSw; clear hSw; go_simp; all_goals (with_reducible rfl))); simp only [Act.put, lzT, lzZ, lzS])
      (refine wpAnyH_tk 7 (some 90) (v := ?_) rfl rfl ?_ ?_; rotate_left; (focus (intro wq hSw; clear hSw; go_simp; all_goals (with_reducible rfl))); simp only [Act.put, lzT, lzZ, lzS])
      (refine wpAnyH_tk 8 (some 91) (v := ?_) rfl rfl ?_ ?_; rotate_left; (focus (intro wq hSw; clear hSw; go_simp; all_goals (with_reducible rfl))); simp only [Act.put, lzT, lzZ, lzS])
      (refine wpAnyH_tk 9 (some 92) (v := ?_) rfl rfl ?_ ?_; rotate_left; (focus (intro wq hSw; clear hSw; go_simp; all_goals (with_reducible rfl))); simp only [Act.put, lzT, lzZ, lzS])
      (refine wpAnyH_tk 10 (some 93) (v := ?_) rfl rfl ?_ ?_; rotate_left; (focus (intro wq hSw; clear hSw; go_simp; all_goals (with_reducible rfl))); simp only [Act.put, lzT, lzZ, lzS])
      (refine wpAnyH_tk 11 (some 94) (v := ?_) rfl rfl ?_ ?_; rotate_left; (focus (intro wq hSw; clear hSw; go_simp; all_goals (with_reducible rfl))); simp only [Act.put, lzT, lzZ, lzS])
      (refine wpAnyH_tk 12 (some 95) (v := ?_) rfl rfl ?_ ?_; rotate_left; (focus (intro wq hSw; clear hSw; go_simp; all_goals (with_reducible rfl))); simp only [Act.put, lzT, lzZ, lzS])
      (refine wpAnyH_tk 13 (some 96) (v := ?_) rfl rfl ?_ ?_; rotate_left; (focus (intro wq hSw; have q9 := hS1 wq hSw; clear hSw; go_simp; all_goals (with_reducible rfl))); simp only [Act.put, lzT, lzZ, lzS])
      refine wpAnyH_ready (rs := [5, 14]) (by kernel_rfl) (by simp) ?_
      refine AllReadyH.cons (o := _) rfl (fun K hK => ?_) (AllReadyH.cons (o := _) rfl (fun K hK => ?_) AllReadyH.nil)
      · skip
        have q9 := hc6 _ (hbd)
        go_simp
        clear q9
        refine hK.out _ _ (hS2 _ (hbd)) (fun hHeld => ?_)
        clear hK K
        (try simp only [Act.put, lzT, lzZ, lzS])
        refine wpAnyH_ready (rs := [6, 14]) (by kernel_rfl) (by simp) ?_
        refine AllReadyH.cons (o := _) rfl (fun K hK => ?_) (AllReadyH.cons (o := _) rfl (fun K hK => ?_) AllReadyH.nil)
        · skip
          go_simp
          (go_at_call 48; refine (slices_Clone_Wait tA tn tc (dcells dWait D.wa qs) _ (HRV.out.up (hbd)) HQT.out.one (by omega)).mono ?_; rintro e wl ⟨vl, rfl, hol, hbl⟩; obtain ⟨Al, cl, rfl, -⟩ := own_row hol (by omega))
          have hbl2 := bel_trans (hbd) hbl
          have hol' := own_mono (B' := Xd.heap.size) hol ((hbd).size)
          refine hK.out _ _ (hS2 _ hbl2) (fun hHeld => ?_)
          clear hK K
          (try simp only [Act.put, lzT, lzZ, lzS])
          refine wpAnyH_ready (rs := [14]) (by kernel_rfl) (by simp) ?_
          refine AllReadyH.cons (o := _) rfl (fun K hK => ?_) AllReadyH.nil
          go_simp
          obtain ⟨NA, hNA⟩ : ∃ N, N = wl.heap.size := ⟨_, rfl⟩
          obtain ⟨ZA, hZA⟩ : ∃ Zq : World, Zq = wl.alloc (.cells #[.int .i64 D.id] 3) := ⟨_, rfl⟩
          rw [← hNA, ← hZA]
          have hkA : Blk ZA NA 3 [.int .i64 D.id] := by rw [hZA, hNA]; exact Blk.new _ 3 [.int .i64 D.id]
          have hbA : Below wl.heap.size wl ZA := by rw [hZA]; exact bel_alloc (Below.refl _ _)
          have hbA2 := bel_trans (hbl2) hbA
          have hNA2 : Xd.heap.size ≤ NA := by rw [hNA]; exact (hbl2).size
          clear hNA hZA
          refine hK.out _ _ (hS2 _ hbA2) (fun hHeld => ?_)
          clear hK K
          (try simp only [Act.put, lzT, lzZ, lzS])
          (refine wpAnyH_tk 15 (some 98) (v := ?_) rfl rfl ?_ ?_; rotate_left; (focus (intro wq hSw; clear hSw; go_simp; all_goals (with_reducible rfl))); simp only [Act.put, lzT, lzZ, lzS])
          refine wpAnyH_ready (rs := [16]) (by kernel_rfl) (by simp) ?_
          refine AllReadyH.cons (o := _) rfl (fun K hK => ?_) AllReadyH.nil
          go_simp
          obtain ⟨NB, hNB⟩ : ∃ N, N = ZA.heap.size := ⟨_, rfl⟩
          obtain ⟨ZB, hZB⟩ : ∃ Zq : World, Zq = ZA.alloc (.cells #[.int .i64 d, .slice (some ⟨NA, 0, none⟩) 1 1] 84) := ⟨_, rfl⟩
          rw [← hNB, ← hZB]
          have hkB : Blk ZB NB 84 [.int .i64 d, .slice (some ⟨NA, 0, none⟩) 1 1] := by rw [hZB, hNB]; exact Blk.new _ 84 [.int .i64 d, .slice (some ⟨NA, 0, none⟩) 1 1]
          have hbB : Below ZA.heap.size ZA ZB := by rw [hZB]; exact bel_alloc (Below.refl _ _)
          have hbB2 := bel_trans (hbA2) hbB
          have hNB2 : Xd.heap.size ≤ NB := by rw [hNB]; exact (hbA2).size
          have hNB5 : ZA.heap.size ≤ NB := by rw [hNB]; exact Nat.le_refl _
          clear hNB hZB
          refine hK.out _ _ (hS2 _ hbB2) (fun hHeld => ?_)
          clear hK K
          (try simp only [Act.put, lzT, lzZ, lzS])
          refine wpAnyH_ready (rs := [17]) (by kernel_rfl) (by simp) ?_
          refine AllReadyH.cons (o := _) rfl (fun K hK => ?_) AllReadyH.nil
          go_simp
          have hown9 := (own_up (own_up hol' hbA) hbB)
          have hkA9 := (hkA.up hbB)
          have hkB9 := hkB
          (go_at_call 53; refine (slices_Insert_Wait _ Xd.heap.size (.slice Al tn cl) tn lw (dcells dWait D.wa qs) [.int .i64 d, .slice (some ⟨NA, 0, none⟩) 1 1] NB hown9 hlwn (by omega) hkB9 (fun hq => by (have hq2 := own_lt hol _ hq); (have hq3 := hkB.lt); (have hq4 := hbA.size); (have hq5 := hbB.size); (have hq6 := hbl.size); (have hq7 := hNB5); omega) HQT.out.one (by simp [Value.oneCell']) rfl ((hbB2).size)).mono ?_; rintro e wi ⟨vi, rfl, howi, hbI, hgI, -⟩; obtain ⟨Ai, ci, rfl, -⟩ := own_row howi (by omega))
          have hOTi := OwnT.ins (T := dWait) (x := ⟨d, [D.id]⟩) (p := .slice (some ⟨NA, 0, none⟩) 1 1) (i := lw) (B := B) ⟨by rw [HTN.out]; exact own_mono hown9 hBd, HQT.out.2.1, fun j hj => (HQT.out.2.2 j hj).up (hbB2)⟩ (by rw [HTN.out]; exact hlwn) (own_box1 hkA9 (by omega)) (by rw [HTN.out]; exact own_mono howi hBd) hgI
          have hbI2 : Below Xd.heap.size Xd wi := (hbB2).trans hbI
          have hG0 := HGd.out.up hbI2
          refine hK.out _ _ (hS2 _ hbI2) (fun hHeld => ?_)
          clear hK K
          (try simp only [Act.put, lzT, lzZ, lzS])
          (refine wpAnyH_tk 18 (some 101) (v := ?_) rfl rfl ?_ ?_; rotate_left; (focus (intro wq hSw; clear hSw; go_simp; all_goals (with_reducible rfl))); simp only [Act.put, lzT, lzZ, lzS])
          (refine wpAnyH_tk 19 (some 102) (v := ?_) rfl rfl ?_ ?_; rotate_left; (focus (intro wq hSw; clear hSw; go_simp; all_goals (with_reducible rfl))); simp only [Act.put, lzT, lzZ, lzS])
          (refine wpAnyH_tk 20 (some 103) (v := ?_) rfl rfl ?_ ?_; rotate_left; (focus (intro wq hSw; clear hSw; go_simp; all_goals (with_reducible rfl))); simp only [Act.put, lzT, lzZ, lzS])
          refine wpAnyH_ready (rs := [21]) (by kernel_rfl) (by simp) ?_
          refine AllReadyH.cons (o := _) rfl (fun K hK => ?_) AllReadyH.nil
          have qf := hG0.frozen
          have ql := hG0.lt
          have q9 := hG0.box.2 6 _ rfl
          go_simp
          clear qf ql q9
          have hG1 := hG0.set_ 6 (.slice Ai (tn + 1) ci)
          refine hK.out _ _ (hS4 _ 5 _ (hS2 _ hbI2)) (fun hHeld => ?_)
          clear hK K
          (try simp only [Act.put, lzT, lzZ, lzS])
          refine wpAnyH_done (by kernel_rfl) ?_ _
          go_wp2_with fail
          go_meet
          have ht1 := TKeep.setg (o := 6) (u := .slice Ai (tn + 1) ci) hG0
          exact ⟨Ai, tn + 1, ci, hG1, OwnWs.tk ⟨_, by rw [HSWf.out]; exact hOTi⟩ ht1 twStep, (TKeep.of_below hbI2).trans ht1, (hbXd.trans (hbI2.mono hbXd.size)).setCell (p := ⟨g, 6, none⟩) hgXc _⟩
        · skip
          go_simp
          obtain ⟨NA, hNA⟩ : ∃ N, N = Z.heap.size := ⟨_, rfl⟩
          obtain ⟨ZA, hZA⟩ : ∃ Zq : World, Zq = Z.alloc (.cells #[.int .i64 D.id] 3) := ⟨_, rfl⟩
          rw [← hNA, ← hZA]
          have hkA : Blk ZA NA 3 [.int .i64 D.id] := by rw [hZA, hNA]; exact Blk.new _ 3 [.int .i64 D.id]
          have hbA : Below Z.heap.size Z ZA := by rw [hZA]; exact bel_alloc (Below.refl _ _)
          have hbA2 := bel_trans (hbd) hbA
          have hNA2 : Xd.heap.size ≤ NA := by rw [hNA]; exact (hbd).size
          clear hNA hZA
          refine hK.out _ _ (hS2 _ hbA2) (fun hHeld => ?_)
          clear hK K
          (try simp only [Act.put, lzT, lzZ, lzS])
          (refine wpAnyH_tk 15 (some 98) (v := ?_) rfl rfl ?_ ?_; rotate_left; (focus (intro wq hSw; clear hSw; go_simp; all_goals (with_reducible rfl))); simp only [Act.put, lzT, lzZ, lzS])
          refine wpAnyH_ready (rs := [6, 16]) (by kernel_rfl) (by simp) ?_
          refine AllReadyH.cons (o := _) rfl (fun K hK => ?_) (AllReadyH.cons (o := _) rfl (fun K hK => ?_) AllReadyH.nil)
          · skip
            go_simp
            (go_at_call 48; refine (slices_Clone_Wait tA tn tc (dcells dWait D.wa qs) _ (HRV.out.up (hbA2)) HQT.out.one (by omega)).mono ?_; rintro e wl ⟨vl, rfl, hol, hbl⟩; obtain ⟨Al, cl, rfl, -⟩ := own_row hol (by omega))
            have hbl2 := bel_trans (hbA2) hbl
            have hol' := own_mono (B' := Xd.heap.size) hol ((hbA2).size)
            refine hK.out _ _ (hS2 _ hbl2) (fun hHeld => ?_)
            clear hK K
            (try simp only [Act.put, lzT, lzZ, lzS])
            refine wpAnyH_ready (rs := [16]) (by kernel_rfl) (by simp) ?_
            refine AllReadyH.cons (o := _) rfl (fun K hK => ?_) AllReadyH.nil
            go_simp
            obtain ⟨NB, hNB⟩ : ∃ N, N = wl.heap.size := ⟨_, rfl⟩
            obtain ⟨ZB, hZB⟩ : ∃ Zq : World, Zq = wl.alloc (.cells #[.int .i64 d, .slice (some ⟨NA, 0, none⟩) 1 1] 84) := ⟨_, rfl⟩
            rw [← hNB, ← hZB]
            have hkB : Blk ZB NB 84 [.int .i64 d, .slice (some ⟨NA, 0, none⟩) 1 1] := by rw [hZB, hNB]; exact Blk.new _ 84 [.int .i64 d, .slice (some ⟨NA, 0, none⟩) 1 1]
            have hbB : Below wl.heap.size wl ZB := by rw [hZB]; exact bel_alloc (Below.refl _ _)
            have hbB2 := bel_trans (hbl2) hbB
            have hNB2 : Xd.heap.size ≤ NB := by rw [hNB]; exact (hbl2).size
            have hNB5 : wl.heap.size ≤ NB := by rw [hNB]; exact Nat.le_refl _
            clear hNB hZB
            refine hK.out _ _ (hS2 _ hbB2) (fun hHeld => ?_)
            clear hK K
            (try simp only [Act.put, lzT, lzZ, lzS])
            refine wpAnyH_ready (rs := [17]) (by kernel_rfl) (by simp) ?_
            refine AllReadyH.cons (o := _) rfl (fun K hK => ?_) AllReadyH.nil
            go_simp
            have hown9 := (own_up hol' hbB)
            have hkA9 := ((hkA.up hbl).up hbB)
            have hkB9 := hkB
            (go_at_call 53; refine (slices_Insert_Wait _ Xd.heap.size (.slice Al tn cl) tn lw (dcells dWait D.wa qs) [.int .i64 d, .slice (some ⟨NA, 0, none⟩) 1 1] NB hown9 hlwn (by omega) hkB9 (fun hq => by (have hq2 := own_lt hol _ hq); (have hq3 := hkB.lt); (have hq4 := hbA.size); (have hq5 := hbB.size); (have hq6 := hbl.size); (have hq7 := hNB5); omega) HQT.out.one (by simp [Value.oneCell']) rfl ((hbB2).size)).mono ?_; rintro e wi ⟨vi, rfl, howi, hbI, hgI, -⟩; obtain ⟨Ai, ci, rfl, -⟩ := own_row howi (by omega))
            have hOTi := OwnT.ins (T := dWait) (x := ⟨d, [D.id]⟩) (p := .slice (some ⟨NA, 0, none⟩) 1 1) (i := lw) (B := B) ⟨by rw [HTN.out]; exact own_mono hown9 hBd, HQT.out.2.1, fun j hj => (HQT.out.2.2 j hj).up (hbB2)⟩ (by rw [HTN.out]; exact hlwn) (own_box1 hkA9 (by omega)) (by rw [HTN.out]; exact own_mono howi hBd) hgI
            have hbI2 : Below Xd.heap.size Xd wi := (hbB2).trans hbI
            have hG0 := HGd.out.up hbI2
            refine hK.out _ _ (hS2 _ hbI2) (fun hHeld => ?_)
            clear hK K
            (try simp only [Act.put, lzT, lzZ, lzS])
            (refine wpAnyH_tk 18 (some 101) (v := ?_) rfl rfl ?_ ?_; rotate_left; (focus (intro wq hSw; clear hSw; go_simp; all_goals (with_reducible rfl))); simp only [Act.put, lzT, lzZ, lzS])
            (refine wpAnyH_tk 19 (some 102) (v := ?_) rfl rfl ?_ ?_; rotate_left; (focus (intro wq hSw; clear hSw; go_simp; all_goals (with_reducible rfl))); simp only [Act.put, lzT, lzZ, lzS])
            (refine wpAnyH_tk 20 (some 103) (v := ?_) rfl rfl ?_ ?_; rotate_left; (focus (intro wq hSw; clear hSw; go_simp; all_goals (with_reducible rfl))); simp only [Act.put, lzT, lzZ, lzS])
            refine wpAnyH_ready (rs := [21]) (by kernel_rfl) (by simp) ?_
            refine AllReadyH.cons (o := _) rfl (fun K hK => ?_) AllReadyH.nil
            have qf := hG0.frozen
            have ql := hG0.lt
            have q9 := hG0.box.2 6 _ rfl
            go_simp
            clear qf ql q9
            have hG1 := hG0.set_ 6 (.slice Ai (tn + 1) ci)
            refine hK.out _ _ (hS4 _ 5 _ (hS2 _ hbI2)) (fun hHeld => ?_)
            clear hK K
            (try simp only [Act.put, lzT, lzZ, lzS])
            refine wpAnyH_done (by kernel_rfl) ?_ _
            go_wp2_with fail
            go_meet
            have ht1 := TKeep.setg (o := 6) (u := .slice Ai (tn + 1) ci) hG0
            exact ⟨Ai, tn + 1, ci, hG1, OwnWs.tk ⟨_, by rw [HSWf.out]; exact hOTi⟩ ht1 twStep, (TKeep.of_below hbI2).trans ht1, (hbXd.trans (hbI2.mono hbXd.size)).setCell (p := ⟨g, 6, none⟩) hgXc _⟩
          · skip
            go_simp
            obtain ⟨NB, hNB⟩ : ∃ N, N = ZA.heap.size := ⟨_, rfl⟩
            obtain ⟨ZB, hZB⟩ : ∃ Zq : World, Zq = ZA.alloc (.cells #[.int .i64 d, .slice (some ⟨NA, 0, none⟩) 1 1] 84) := ⟨_, rfl⟩
            rw [← hNB, ← hZB]
            have hkB : Blk ZB NB 84 [.int .i64 d, .slice (some ⟨NA, 0, none⟩) 1 1] := by rw [hZB, hNB]; exact Blk.new _ 84 [.int .i64 d, .slice (some ⟨NA, 0, none⟩) 1 1]
            have hbB : Below ZA.heap.size ZA ZB := by rw [hZB]; exact bel_alloc (Below.refl _ _)
            have hbB2 := bel_trans (hbA2) hbB
            have hNB2 : Xd.heap.size ≤ NB := by rw [hNB]; exact (hbA2).size
            have hNB5 : ZA.heap.size ≤ NB := by rw [hNB]; exact Nat.le_refl _
            clear hNB hZB
            refine hK.out _ _ (hS2 _ hbB2) (fun hHeld => ?_)
            clear hK K
            (try simp only [Act.put, lzT, lzZ, lzS])
            refine wpAnyH_ready (rs := [6]) (by kernel_rfl) (by simp) ?_
            refine AllReadyH.cons (o := _) rfl (fun K hK => ?_) AllReadyH.nil
            go_simp
            (go_at_call 48; refine (slices_Clone_Wait tA tn tc (dcells dWait D.wa qs) _ (HRV.out.up (hbB2)) HQT.out.one (by omega)).mono ?_; rintro e wl ⟨vl, rfl, hol, hbl⟩; obtain ⟨Al, cl, rfl, -⟩ := own_row hol (by omega))
            have hbl2 := bel_trans (hbB2) hbl
            have hol' := own_mono (B' := Xd.heap.size) hol ((hbB2).size)
            refine hK.out _ _ (hS2 _ hbl2) (fun hHeld => ?_)
            clear hK K
            (try simp only [Act.put, lzT, lzZ, lzS])
            refine wpAnyH_ready (rs := [17]) (by kernel_rfl) (by simp) ?_
            refine AllReadyH.cons (o := _) rfl (fun K hK => ?_) AllReadyH.nil
            go_simp
            have hown9 := hol'
            have hkA9 := ((hkA.up hbB).up hbl)
            have hkB9 := (hkB.up hbl)
            (go_at_call 53; refine (slices_Insert_Wait _ Xd.heap.size (.slice Al tn cl) tn lw (dcells dWait D.wa qs) [.int .i64 d, .slice (some ⟨NA, 0, none⟩) 1 1] NB hown9 hlwn (by omega) hkB9 (fun hq => by (have hq2 := own_lt hol _ hq); (have hq3 := hkB.lt); (have hq4 := hbA.size); (have hq5 := hbB.size); (have hq6 := hbl.size); (have hq7 := hNB5); omega) HQT.out.one (by simp [Value.oneCell']) rfl ((hbl2).size)).mono ?_; rintro e wi ⟨vi, rfl, howi, hbI, hgI, -⟩; obtain ⟨Ai, ci, rfl, -⟩ := own_row howi (by omega))
            have hOTi := OwnT.ins (T := dWait) (x := ⟨d, [D.id]⟩) (p := .slice (some ⟨NA, 0, none⟩) 1 1) (i := lw) (B := B) ⟨by rw [HTN.out]; exact own_mono hown9 hBd, HQT.out.2.1, fun j hj => (HQT.out.2.2 j hj).up (hbl2)⟩ (by rw [HTN.out]; exact hlwn) (own_box1 hkA9 (by omega)) (by rw [HTN.out]; exact own_mono howi hBd) hgI
            have hbI2 : Below Xd.heap.size Xd wi := (hbl2).trans hbI
            have hG0 := HGd.out.up hbI2
            refine hK.out _ _ (hS2 _ hbI2) (fun hHeld => ?_)
            clear hK K
            (try simp only [Act.put, lzT, lzZ, lzS])
            (refine wpAnyH_tk 18 (some 101) (v := ?_) rfl rfl ?_ ?_; rotate_left; (focus (intro wq hSw; clear hSw; go_simp; all_goals (with_reducible rfl))); simp only [Act.put, lzT, lzZ, lzS])
            (refine wpAnyH_tk 19 (some 102) (v := ?_) rfl rfl ?_ ?_; rotate_left; (focus (intro wq hSw; clear hSw; go_simp; all_goals (with_reducible rfl))); simp only [Act.put, lzT, lzZ, lzS])
            (refine wpAnyH_tk 20 (some 103) (v := ?_) rfl rfl ?_ ?_; rotate_left; (focus (intro wq hSw; clear hSw; go_simp; all_goals (with_reducible rfl))); simp only [Act.put, lzT, lzZ, lzS])
            refine wpAnyH_ready (rs := [21]) (by kernel_rfl) (by simp) ?_
            refine AllReadyH.cons (o := _) rfl (fun K hK => ?_) AllReadyH.nil
            have qf := hG0.frozen
            have ql := hG0.lt
            have q9 := hG0.box.2 6 _ rfl
            go_simp
            clear qf ql q9
            have hG1 := hG0.set_ 6 (.slice Ai (tn + 1) ci)
            refine hK.out _ _ (hS4 _ 5 _ (hS2 _ hbI2)) (fun hHeld => ?_)
            clear hK K
            (try simp only [Act.put, lzT, lzZ, lzS])
            refine wpAnyH_done (by kernel_rfl) ?_ _
            go_wp2_with fail
            go_meet
            have ht1 := TKeep.setg (o := 6) (u := .slice Ai (tn + 1) ci) hG0
            exact ⟨Ai, tn + 1, ci, hG1, OwnWs.tk ⟨_, by rw [HSWf.out]; exact hOTi⟩ ht1 twStep, (TKeep.of_below hbI2).trans ht1, (hbXd.trans (hbI2.mono hbXd.size)).setCell (p := ⟨g, 6, none⟩) hgXc _⟩
      · skip
        go_simp
        obtain ⟨NA, hNA⟩ : ∃ N, N = Z.heap.size := ⟨_, rfl⟩
        obtain ⟨ZA, hZA⟩ : ∃ Zq : World, Zq = Z.alloc (.cells #[.int .i64 D.id] 3) := ⟨_, rfl⟩
        rw [← hNA, ← hZA]
        have hkA : Blk ZA NA 3 [.int .i64 D.id] := by rw [hZA, hNA]; exact Blk.new _ 3 [.int .i64 D.id]
        have hbA : Below Z.heap.size Z ZA := by rw [hZA]; exact bel_alloc (Below.refl _ _)
        have hbA2 := bel_trans (hbd) hbA
        have hNA2 : Xd.heap.size ≤ NA := by rw [hNA]; exact (hbd).size
        clear hNA hZA
        refine hK.out _ _ (hS2 _ hbA2) (fun hHeld => ?_)
        clear hK K
        (try simp only [Act.put, lzT, lzZ, lzS])
        (refine wpAnyH_tk 15 (some 98) (v := ?_) rfl rfl ?_ ?_; rotate_left; (focus (intro wq hSw; clear hSw; go_simp; all_goals (with_reducible rfl))); simp only [Act.put, lzT, lzZ, lzS])
        refine wpAnyH_ready (rs := [5, 16]) (by kernel_rfl) (by simp) ?_
        refine AllReadyH.cons (o := _) rfl (fun K hK => ?_) (AllReadyH.cons (o := _) rfl (fun K hK => ?_) AllReadyH.nil)
        · skip
          have q9 := hc6 _ (hbA2)
          go_simp
          clear q9
          refine hK.out _ _ (hS2 _ (hbA2)) (fun hHeld => ?_)
          clear hK K
          (try simp only [Act.put, lzT, lzZ, lzS])
          refine wpAnyH_ready (rs := [6, 16]) (by kernel_rfl) (by simp) ?_
          refine AllReadyH.cons (o := _) rfl (fun K hK => ?_) (AllReadyH.cons (o := _) rfl (fun K hK => ?_) AllReadyH.nil)
          · skip
            go_simp
            (go_at_call 48; refine (slices_Clone_Wait tA tn tc (dcells dWait D.wa qs) _ (HRV.out.up (hbA2)) HQT.out.one (by omega)).mono ?_; rintro e wl ⟨vl, rfl, hol, hbl⟩; obtain ⟨Al, cl, rfl, -⟩ := own_row hol (by omega))
            have hbl2 := bel_trans (hbA2) hbl
            have hol' := own_mono (B' := Xd.heap.size) hol ((hbA2).size)
            refine hK.out _ _ (hS2 _ hbl2) (fun hHeld => ?_)
            clear hK K
            (try simp only [Act.put, lzT, lzZ, lzS])
            refine wpAnyH_ready (rs := [16]) (by kernel_rfl) (by simp) ?_
            refine AllReadyH.cons (o := _) rfl (fun K hK => ?_) AllReadyH.nil
            go_simp
            obtain ⟨NB, hNB⟩ : ∃ N, N = wl.heap.size := ⟨_, rfl⟩
            obtain ⟨ZB, hZB⟩ : ∃ Zq : World, Zq = wl.alloc (.cells #[.int .i64 d, .slice (some ⟨NA, 0, none⟩) 1 1] 84) := ⟨_, rfl⟩
            rw [← hNB, ← hZB]
            have hkB : Blk ZB NB 84 [.int .i64 d, .slice (some ⟨NA, 0, none⟩) 1 1] := by rw [hZB, hNB]; exact Blk.new _ 84 [.int .i64 d, .slice (some ⟨NA, 0, none⟩) 1 1]
            have hbB : Below wl.heap.size wl ZB := by rw [hZB]; exact bel_alloc (Below.refl _ _)
            have hbB2 := bel_trans (hbl2) hbB
            have hNB2 : Xd.heap.size ≤ NB := by rw [hNB]; exact (hbl2).size
            have hNB5 : wl.heap.size ≤ NB := by rw [hNB]; exact Nat.le_refl _
            clear hNB hZB
            refine hK.out _ _ (hS2 _ hbB2) (fun hHeld => ?_)
            clear hK K
            (try simp only [Act.put, lzT, lzZ, lzS])
            refine wpAnyH_ready (rs := [17]) (by kernel_rfl) (by simp) ?_
            refine AllReadyH.cons (o := _) rfl (fun K hK => ?_) AllReadyH.nil
            go_simp
            have hown9 := (own_up hol' hbB)
            have hkA9 := ((hkA.up hbl).up hbB)
            have hkB9 := hkB
            (go_at_call 53; refine (slices_Insert_Wait _ Xd.heap.size (.slice Al tn cl) tn lw (dcells dWait D.wa qs) [.int .i64 d, .slice (some ⟨NA, 0, none⟩) 1 1] NB hown9 hlwn (by omega) hkB9 (fun hq => by (have hq2 := own_lt hol _ hq); (have hq3 := hkB.lt); (have hq4 := hbA.size); (have hq5 := hbB.size); (have hq6 := hbl.size); (have hq7 := hNB5); omega) HQT.out.one (by simp [Value.oneCell']) rfl ((hbB2).size)).mono ?_; rintro e wi ⟨vi, rfl, howi, hbI, hgI, -⟩; obtain ⟨Ai, ci, rfl, -⟩ := own_row howi (by omega))
            have hOTi := OwnT.ins (T := dWait) (x := ⟨d, [D.id]⟩) (p := .slice (some ⟨NA, 0, none⟩) 1 1) (i := lw) (B := B) ⟨by rw [HTN.out]; exact own_mono hown9 hBd, HQT.out.2.1, fun j hj => (HQT.out.2.2 j hj).up (hbB2)⟩ (by rw [HTN.out]; exact hlwn) (own_box1 hkA9 (by omega)) (by rw [HTN.out]; exact own_mono howi hBd) hgI
            have hbI2 : Below Xd.heap.size Xd wi := (hbB2).trans hbI
            have hG0 := HGd.out.up hbI2
            refine hK.out _ _ (hS2 _ hbI2) (fun hHeld => ?_)
            clear hK K
            (try simp only [Act.put, lzT, lzZ, lzS])
            (refine wpAnyH_tk 18 (some 101) (v := ?_) rfl rfl ?_ ?_; rotate_left; (focus (intro wq hSw; clear hSw; go_simp; all_goals (with_reducible rfl))); simp only [Act.put, lzT, lzZ, lzS])
            (refine wpAnyH_tk 19 (some 102) (v := ?_) rfl rfl ?_ ?_; rotate_left; (focus (intro wq hSw; clear hSw; go_simp; all_goals (with_reducible rfl))); simp only [Act.put, lzT, lzZ, lzS])
            (refine wpAnyH_tk 20 (some 103) (v := ?_) rfl rfl ?_ ?_; rotate_left; (focus (intro wq hSw; clear hSw; go_simp; all_goals (with_reducible rfl))); simp only [Act.put, lzT, lzZ, lzS])
            refine wpAnyH_ready (rs := [21]) (by kernel_rfl) (by simp) ?_
            refine AllReadyH.cons (o := _) rfl (fun K hK => ?_) AllReadyH.nil
            have qf := hG0.frozen
            have ql := hG0.lt
            have q9 := hG0.box.2 6 _ rfl
            go_simp
            clear qf ql q9
            have hG1 := hG0.set_ 6 (.slice Ai (tn + 1) ci)
            refine hK.out _ _ (hS4 _ 5 _ (hS2 _ hbI2)) (fun hHeld => ?_)
            clear hK K
            (try simp only [Act.put, lzT, lzZ, lzS])
            refine wpAnyH_done (by kernel_rfl) ?_ _
            go_wp2_with fail
            go_meet
            have ht1 := TKeep.setg (o := 6) (u := .slice Ai (tn + 1) ci) hG0
            exact ⟨Ai, tn + 1, ci, hG1, OwnWs.tk ⟨_, by rw [HSWf.out]; exact hOTi⟩ ht1 twStep, (TKeep.of_below hbI2).trans ht1, (hbXd.trans (hbI2.mono hbXd.size)).setCell (p := ⟨g, 6, none⟩) hgXc _⟩
          · skip
            go_simp
            obtain ⟨NB, hNB⟩ : ∃ N, N = ZA.heap.size := ⟨_, rfl⟩
            obtain ⟨ZB, hZB⟩ : ∃ Zq : World, Zq = ZA.alloc (.cells #[.int .i64 d, .slice (some ⟨NA, 0, none⟩) 1 1] 84) := ⟨_, rfl⟩
            rw [← hNB, ← hZB]
            have hkB : Blk ZB NB 84 [.int .i64 d, .slice (some ⟨NA, 0, none⟩) 1 1] := by rw [hZB, hNB]; exact Blk.new _ 84 [.int .i64 d, .slice (some ⟨NA, 0, none⟩) 1 1]
            have hbB : Below ZA.heap.size ZA ZB := by rw [hZB]; exact bel_alloc (Below.refl _ _)
            have hbB2 := bel_trans (hbA2) hbB
            have hNB2 : Xd.heap.size ≤ NB := by rw [hNB]; exact (hbA2).size
            have hNB5 : ZA.heap.size ≤ NB := by rw [hNB]; exact Nat.le_refl _
            clear hNB hZB
            refine hK.out _ _ (hS2 _ hbB2) (fun hHeld => ?_)
            clear hK K
            (try simp only [Act.put, lzT, lzZ, lzS])
            refine wpAnyH_ready (rs := [6]) (by kernel_rfl) (by simp) ?_
            refine AllReadyH.cons (o := _) rfl (fun K hK => ?_) AllReadyH.nil
            go_simp
            (go_at_call 48; refine (slices_Clone_Wait tA tn tc (dcells dWait D.wa qs) _ (HRV.out.up (hbB2)) HQT.out.one (by omega)).mono ?_; rintro e wl ⟨vl, rfl, hol, hbl⟩; obtain ⟨Al, cl, rfl, -⟩ := own_row hol (by omega))
            have hbl2 := bel_trans (hbB2) hbl
            have hol' := own_mono (B' := Xd.heap.size) hol ((hbB2).size)
            refine hK.out _ _ (hS2 _ hbl2) (fun hHeld => ?_)
            clear hK K
            (try simp only [Act.put, lzT, lzZ, lzS])
            refine wpAnyH_ready (rs := [17]) (by kernel_rfl) (by simp) ?_
            refine AllReadyH.cons (o := _) rfl (fun K hK => ?_) AllReadyH.nil
            go_simp
            have hown9 := hol'
            have hkA9 := ((hkA.up hbB).up hbl)
            have hkB9 := (hkB.up hbl)
            (go_at_call 53; refine (slices_Insert_Wait _ Xd.heap.size (.slice Al tn cl) tn lw (dcells dWait D.wa qs) [.int .i64 d, .slice (some ⟨NA, 0, none⟩) 1 1] NB hown9 hlwn (by omega) hkB9 (fun hq => by (have hq2 := own_lt hol _ hq); (have hq3 := hkB.lt); (have hq4 := hbA.size); (have hq5 := hbB.size); (have hq6 := hbl.size); (have hq7 := hNB5); omega) HQT.out.one (by simp [Value.oneCell']) rfl ((hbl2).size)).mono ?_; rintro e wi ⟨vi, rfl, howi, hbI, hgI, -⟩; obtain ⟨Ai, ci, rfl, -⟩ := own_row howi (by omega))
            have hOTi := OwnT.ins (T := dWait) (x := ⟨d, [D.id]⟩) (p := .slice (some ⟨NA, 0, none⟩) 1 1) (i := lw) (B := B) ⟨by rw [HTN.out]; exact own_mono hown9 hBd, HQT.out.2.1, fun j hj => (HQT.out.2.2 j hj).up (hbl2)⟩ (by rw [HTN.out]; exact hlwn) (own_box1 hkA9 (by omega)) (by rw [HTN.out]; exact own_mono howi hBd) hgI
            have hbI2 : Below Xd.heap.size Xd wi := (hbl2).trans hbI
            have hG0 := HGd.out.up hbI2
            refine hK.out _ _ (hS2 _ hbI2) (fun hHeld => ?_)
            clear hK K
            (try simp only [Act.put, lzT, lzZ, lzS])
            (refine wpAnyH_tk 18 (some 101) (v := ?_) rfl rfl ?_ ?_; rotate_left; (focus (intro wq hSw; clear hSw; go_simp; all_goals (with_reducible rfl))); simp only [Act.put, lzT, lzZ, lzS])
            (refine wpAnyH_tk 19 (some 102) (v := ?_) rfl rfl ?_ ?_; rotate_left; (focus (intro wq hSw; clear hSw; go_simp; all_goals (with_reducible rfl))); simp only [Act.put, lzT, lzZ, lzS])
            (refine wpAnyH_tk 20 (some 103) (v := ?_) rfl rfl ?_ ?_; rotate_left; (focus (intro wq hSw; clear hSw; go_simp; all_goals (with_reducible rfl))); simp only [Act.put, lzT, lzZ, lzS])
            refine wpAnyH_ready (rs := [21]) (by kernel_rfl) (by simp) ?_
            refine AllReadyH.cons (o := _) rfl (fun K hK => ?_) AllReadyH.nil
            have qf := hG0.frozen
            have ql := hG0.lt
            have q9 := hG0.box.2 6 _ rfl
            go_simp
            clear qf ql q9
            have hG1 := hG0.set_ 6 (.slice Ai (tn + 1) ci)
            refine hK.out _ _ (hS4 _ 5 _ (hS2 _ hbI2)) (fun hHeld => ?_)
            clear hK K
            (try simp only [Act.put, lzT, lzZ, lzS])
            refine wpAnyH_done (by kernel_rfl) ?_ _
            go_wp2_with fail
            go_meet
            have ht1 := TKeep.setg (o := 6) (u := .slice Ai (tn + 1) ci) hG0
            exact ⟨Ai, tn + 1, ci, hG1, OwnWs.tk ⟨_, by rw [HSWf.out]; exact hOTi⟩ ht1 twStep, (TKeep.of_below hbI2).trans ht1, (hbXd.trans (hbI2.mono hbXd.size)).setCell (p := ⟨g, 6, none⟩) hgXc _⟩
        · skip
          go_simp
          obtain ⟨NB, hNB⟩ : ∃ N, N = ZA.heap.size := ⟨_, rfl⟩
          obtain ⟨ZB, hZB⟩ : ∃ Zq : World, Zq = ZA.alloc (.cells #[.int .i64 d, .slice (some ⟨NA, 0, none⟩) 1 1] 84) := ⟨_, rfl⟩
          rw [← hNB, ← hZB]
          have hkB : Blk ZB NB 84 [.int .i64 d, .slice (some ⟨NA, 0, none⟩) 1 1] := by rw [hZB, hNB]; exact Blk.new _ 84 [.int .i64 d, .slice (some ⟨NA, 0, none⟩) 1 1]
          have hbB : Below ZA.heap.size ZA ZB := by rw [hZB]; exact bel_alloc (Below.refl _ _)
          have hbB2 := bel_trans (hbA2) hbB
          have hNB2 : Xd.heap.size ≤ NB := by rw [hNB]; exact (hbA2).size
          have hNB5 : ZA.heap.size ≤ NB := by rw [hNB]; exact Nat.le_refl _
          clear hNB hZB
          refine hK.out _ _ (hS2 _ hbB2) (fun hHeld => ?_)
          clear hK K
          (try simp only [Act.put, lzT, lzZ, lzS])
          refine wpAnyH_ready (rs := [5]) (by kernel_rfl) (by simp) ?_
          refine AllReadyH.cons (o := _) rfl (fun K hK => ?_) AllReadyH.nil
          have q9 := hc6 _ (hbB2)
          go_simp
          clear q9
          refine hK.out _ _ (hS2 _ (hbB2)) (fun hHeld => ?_)
          clear hK K
          (try simp only [Act.put, lzT, lzZ, lzS])
          refine wpAnyH_ready (rs := [6]) (by kernel_rfl) (by simp) ?_
          refine AllReadyH.cons (o := _) rfl (fun K hK => ?_) AllReadyH.nil
          go_simp
          (go_at_call 48; refine (slices_Clone_Wait tA tn tc (dcells dWait D.wa qs) _ (HRV.out.up (hbB2)) HQT.out.one (by omega)).mono ?_; rintro e wl ⟨vl, rfl, hol, hbl⟩; obtain ⟨Al, cl, rfl, -⟩ := own_row hol (by omega))
          have hbl2 := bel_trans (hbB2) hbl
          have hol' := own_mono (B' := Xd.heap.size) hol ((hbB2).size)
          refine hK.out _ _ (hS2 _ hbl2) (fun hHeld => ?_)
          clear hK K
          (try simp only [Act.put, lzT, lzZ, lzS])
          refine wpAnyH_ready (rs := [17]) (by kernel_rfl) (by simp) ?_
          refine AllReadyH.cons (o := _) rfl (fun K hK => ?_) AllReadyH.nil
          go_simp
          have hown9 := hol'
          have hkA9 := ((hkA.up hbB).up hbl)
          have hkB9 := (hkB.up hbl)
          (go_at_call 53; refine (slices_Insert_Wait _ Xd.heap.size (.slice Al tn cl) tn lw (dcells dWait D.wa qs) [.int .i64 d, .slice (some ⟨NA, 0, none⟩) 1 1] NB hown9 hlwn (by omega) hkB9 (fun hq => by (have hq2 := own_lt hol _ hq); (have hq3 := hkB.lt); (have hq4 := hbA.size); (have hq5 := hbB.size); (have hq6 := hbl.size); (have hq7 := hNB5); omega) HQT.out.one (by simp [Value.oneCell']) rfl ((hbl2).size)).mono ?_; rintro e wi ⟨vi, rfl, howi, hbI, hgI, -⟩; obtain ⟨Ai, ci, rfl, -⟩ := own_row howi (by omega))
          have hOTi := OwnT.ins (T := dWait) (x := ⟨d, [D.id]⟩) (p := .slice (some ⟨NA, 0, none⟩) 1 1) (i := lw) (B := B) ⟨by rw [HTN.out]; exact own_mono hown9 hBd, HQT.out.2.1, fun j hj => (HQT.out.2.2 j hj).up (hbl2)⟩ (by rw [HTN.out]; exact hlwn) (own_box1 hkA9 (by omega)) (by rw [HTN.out]; exact own_mono howi hBd) hgI
          have hbI2 : Below Xd.heap.size Xd wi := (hbl2).trans hbI
          have hG0 := HGd.out.up hbI2
          refine hK.out _ _ (hS2 _ hbI2) (fun hHeld => ?_)
          clear hK K
          (try simp only [Act.put, lzT, lzZ, lzS])
          (refine wpAnyH_tk 18 (some 101) (v := ?_) rfl rfl ?_ ?_; rotate_left; (focus (intro wq hSw; clear hSw; go_simp; all_goals (with_reducible rfl))); simp only [Act.put, lzT, lzZ, lzS])
          (refine wpAnyH_tk 19 (some 102) (v := ?_) rfl rfl ?_ ?_; rotate_left; (focus (intro wq hSw; clear hSw; go_simp; all_goals (with_reducible rfl))); simp only [Act.put, lzT, lzZ, lzS])
          (refine wpAnyH_tk 20 (some 103) (v := ?_) rfl rfl ?_ ?_; rotate_left; (focus (intro wq hSw; clear hSw; go_simp; all_goals (with_reducible rfl))); simp only [Act.put, lzT, lzZ, lzS])
          refine wpAnyH_ready (rs := [21]) (by kernel_rfl) (by simp) ?_
          refine AllReadyH.cons (o := _) rfl (fun K hK => ?_) AllReadyH.nil
          have qf := hG0.frozen
          have ql := hG0.lt
          have q9 := hG0.box.2 6 _ rfl
          go_simp
          clear qf ql q9
          have hG1 := hG0.set_ 6 (.slice Ai (tn + 1) ci)
          refine hK.out _ _ (hS4 _ 5 _ (hS2 _ hbI2)) (fun hHeld => ?_)
          clear hK K
          (try simp only [Act.put, lzT, lzZ, lzS])
          refine wpAnyH_done (by kernel_rfl) ?_ _
          go_wp2_with fail
          go_meet
          have ht1 := TKeep.setg (o := 6) (u := .slice Ai (tn + 1) ci) hG0
          exact ⟨Ai, tn + 1, ci, hG1, OwnWs.tk ⟨_, by rw [HSWf.out]; exact hOTi⟩ ht1 twStep, (TKeep.of_below hbI2).trans ht1, (hbXd.trans (hbI2.mono hbXd.size)).setCell (p := ⟨g, 6, none⟩) hgXc _⟩
    · have HSWt := Lib.hid (HSW2.out rfl)
      clear hqt HSW HSW2
      go_wp2_with fail
      go_meet
      exact ⟨tA, tn, tc, HGv.out, by rw [HSWt.out]; exact HWd.out.wa.up hbv, TKeep.of_below hbv, bel_trans hbXd hbv⟩
  case rest =>
  obtain ⟨At, nt, ct, hG2, hwa2, htk2, hb2c⟩ := hcut
  obtain ⟨Xe, hXe⟩ : ∃ x, x = wc := ⟨_, rfl⟩
  subst hXe
  have HGe := Lib.hid hG2
  have hge := hG2.lt
  have HBe := Lib.hid (own_tk HBd.out htk2 (by decide))
  have HQe := Lib.hid (HQd.out.tk htk2 (by decide))
  have HVe := Lib.hid (HVd.out.tk htk2 (by decide))
  have HOPe : Hid (OwnX Xe X2.heap.size (.slice A1 n1 c1) (D.op.drop 8)) := Lib.hid (own_tk HOPd.out htk2 (by decide))
  have HHe : Hid (OwnHs Xe B (.slice A3 n3 c3) (insAt D.he (kposH D.he d) ⟨d, nxD D⟩)) := Lib.hid (HHd.out.tk htk2 twStep)
  have HRe : Hid (OwnI Xe B (.slice rA rn rc) D.re) := Lib.hid (own_tk HWd.out.re htk2 (by decide))
  have HWe := Lib.hid hwa2
  have HTKe : Hid (∀ X, But Xe.heap.size g Xe X → TKeep 97 Xe X) := Lib.hid (fun X hX => TKeep.of_but HGe.out hX)
  have b_0 := (HQe.out.box).2 0 _ rfl; have b_1 := (HQe.out.box).2 1 _ rfl; have b_2 := (HQe.out.box).2 2 _ rfl
  have hq7l := HQe.out.lt
  clear hG2 hwa2 htk2 HGd HWd HBd HQd HVd HOPd HHd HSW HSW2
  go_upto_region 16 with (go_at_call 54; refine (step_ask g Xe.heap.size D.id D.nodes d (.int .i64 (D.next + 1)) (.slice A1 n1 c1) (.int .i64 0) (.int .i64 D.clock) (.slice At nt ct) (.slice A3 n3 c3) (.slice rA rn rc) (nxD D) bA none none bn bc 0 0 0 0 [] [] [] Xe HGe.out hge (Nat.le_refl _) (OwnT.nil _ _) (by simp) hn1 hn16 (by omega) (fun X hX => (by
      obtain ⟨A', c', e', h1, _⟩ := OwnX.txs (own_tk HBe.out (HTKe.out X hX) (by decide)) (by rw [HBN.out]; omega)
      injection e' with e1 e2 e3
      rw [HBN.out] at h1
      rw [e1]; exact h1)) (fun X hX => ⟨rfl, by omega, fun h => absurd h (by omega)⟩)).mono ?_; rintro e w9 ⟨A9, n9, c9, ps9, rfl, hbt9, hG9, hM9⟩)
  have htk9 := HTKe.out w9 hbt9
  have hb9w : Below w.heap.size w w9 := hb2c.trans ((hbt9.below (Nat.le_of_lt hge)).mono hgXc)
  have HG9 := Lib.hid hG9
  have HM9 : Hid (OwnMs w9 Xe.heap.size (.slice A9 n9 c9) (askL D.id d (nxD D) [] D.nodes.toNat)) := Lib.hid ⟨ps9, by simpa using hM9⟩
  have hg9 := hG9.lt
  have hB9 : B ≤ w9.heap.size := Nat.le_trans hB hb9w.size
  have HV9 := Lib.hid (HVe.out.tk htk9 (by decide))
  have HOP9 : Hid (OwnX w9 X2.heap.size (.slice A1 n1 c1) (D.op.drop 8)) := Lib.hid (own_tk HOPe.out htk9 (by decide))
  have HH9 := Lib.hid (HHe.out.tk htk9 twStep)
  have HW9 := Lib.hid (HWe.out.tk htk9 twStep)
  have HR9 : Hid (OwnI w9 B (.slice rA rn rc) D.re) := Lib.hid (own_tk HRe.out htk9 (by decide))
  clear htk9 hbt9 hG9 hM9 HTKe HGe HBe HQe HVe HOPe HHe HRe HWe b_0 b_1 b_2 hq7l
  go_upto_region 17 with (go_at_call 55; refine (step_kept g B A1 At A3 rA A9 n1 c1 nt ct n3 c3 rn rc n9 c9 { D with op := D.op.drop 8, next := D.next + 1, age := 0, wa := sealW D d } w9 HG9.out hB9 HW9.out HR9.out (sealW_big HS.out.wa (by have := HRE.out; omega)) (by have h9 := sealW_len D d; have h8 := HRE.out; show D.re.length + (sealW D d).length ≤ 800000000; omega) (sealW_rise HM.out.2.2.2.2.2.2.2.2.2.1 hid1 hid2) hn1 hn16).mono ?_; rintro e wk ⟨Xk, A5, n5, c5, A6, n6, c6, rfl, rfl, hbk, hwk, hrk⟩)
  have hGk := HG9.out.up hbk
  have hGk2 := hGk.set_ 6 (.slice A5 n5 c5)
  have htk := (TKeep.of_below hbk).trans ((TKeep.setg (o := 6) (u := .slice A5 n5 c5) hGk).trans (TKeep.setg (o := 8) (u := .slice A6 n6 c6) hGk2))
  have htk3 := (TKeep.setg (o := 6) (u := .slice A5 n5 c5) hGk).trans (TKeep.setg (o := 8) (u := .slice A6 n6 c6) hGk2)
  obtain ⟨Xf, hXf⟩ : ∃ Z, Z = (Xk.setCell ⟨g, 6, none⟩ (.slice A5 n5 c5)).setCell ⟨g, 8, none⟩ (.slice A6 n6 c6) := ⟨_, rfl⟩
  have hGf : Blk Xf g 97 ([.int .i64 D.id, .int .i64 D.nodes, .int .i64 (D.next + 1), .slice A1 n1 c1, .int .i64 0, .int .i64 D.clock, .slice A5 n5 c5, .slice A3 n3 c3, .slice A6 n6 c6] ++ [.slice A9 n9 c9]) := by rw [hXf]; exact hGk2.set_ 8 _
  rw [← hXf] at htk htk3 ⊢
  have hbf : Below w.heap.size w Xf := by rw [hXf]; exact ((hb9w.trans (hbk.mono hb9w.size)).setCell (p := ⟨g, 6, none⟩) hgXc _).setCell (p := ⟨g, 8, none⟩) hgXc _
  have HGf := Lib.hid hGf
  have HVf := Lib.hid (HV9.out.tk htk (by decide))
  have HOf : Hid (WorkO Xf B ⟨⟨A1, n1, c1⟩, ⟨A5, n5, c5⟩, ⟨A3, n3, c3⟩, ⟨A6, n6, c6⟩⟩ (sealD D d)) := Lib.hid ⟨own_mono (own_tk HOP9.out htk (by decide)) (Nat.le_trans hB hbX2.size), hwk.tk htk3 twStep, HH9.out.tk htk twStep, own_mono (own_tk hrk htk3 (by decide)) hB9⟩
  have HMf : Hid (OwnMs Xf w.heap.size (.slice A9 n9 c9) (askL D.id d (nxD D) [] D.nodes.toNat)) := Lib.hid ((HM9.out.tk htk twStep).mono hb2c.size)
  have hgf := hGf.lt
  have hvf := HVf.out.lt
  clear hXf hGk hGk2 htk htk3 hbk hwk hrk HG9 HV9 HOP9 HH9 HW9 HR9 HM9
  obtain ⟨N1, hN1⟩ : ∃ N, N = w.heap.size + 1 := ⟨_, rfl⟩
  rw [← hN1] at HVf hvf ⊢
  have hN1w : w.heap.size ≤ N1 := by omega
  have hgN : g ≠ N1 := by omega
  clear hN1
  obtain ⟨S, hS⟩ : ∃ S : World → Prop, S = fun Y => Blk Y g 97 ([.int .i64 D.id, .int .i64 D.nodes, .int .i64 (D.next + 1), .slice A1 n1 c1, .int .i64 0, .int .i64 D.clock, .slice A5 n5 c5, .slice A3 n3 c3, .slice A6 n6 c6] ++ [.slice A9 n9 c9]) := ⟨_, rfl⟩
  have hS0 : S Xf.drew := by rw [hS]; exact HGf.out.up (bel_drew (Below.refl _ _))
  have hS1 : ∀ Y, S Y → Y.rangeAt g 0 [.int .i64 D.id, .int .i64 D.nodes, .int .i64 (D.next + 1), .slice A1 n1 c1, .int .i64 0, .int .i64 D.clock, .slice A5 n5 c5, .slice A3 n3 c3, .slice A6 n6 c6] := fun Y h => by
    rw [hS] at h
    intro j u hu
    rw [Nat.zero_add]
    exact h.box.2 j u (by rw [List.getElem?_append_left (by have := (List.getElem?_eq_some_iff.1 hu).1; exact this)]; exact hu)
  have hS3 : ∀ Y, S Y → Y.cell? ⟨g, 9, none⟩ = some (.slice A9 n9 c9) := fun Y h => by rw [hS] at h; exact h.box.2 9 _ rfl
  have hS5 : ∀ Y, S Y → ∀ (a0 a1 a2 a3 a4 a5 a6 a7 a8 : Value), S (((((((((Y.setCell ⟨N1, 0, none⟩ a0).setCell ⟨N1, 1, none⟩ a1).setCell ⟨N1, 2, none⟩ a2).setCell ⟨N1, 3, none⟩ a3).setCell ⟨N1, 4, none⟩ a4).setCell ⟨N1, 5, none⟩ a5).setCell ⟨N1, 6, none⟩ a6).setCell ⟨N1, 7, none⟩ a7).setCell ⟨N1, 8, none⟩ a8) := fun Y h a0 a1 a2 a3 a4 a5 a6 a7 a8 => by rw [hS] at h ⊢; exact h.sets9 hgN a0 a1 a2 a3 a4 a5 a6 a7 a8
  clear hS
  refine wp_region_held_drew (S := S) (by kernel_rfl) hS0 (fun hHeld => ?_)
  have hbd : Below Xf.heap.size Xf Xf.drew := bel_drew (Below.refl _ _)
  have hZ := hHeld
  generalize Xf.drew = Z at *
  (refine wpAnyH_tk 0 (some 110) (v := ?_) rfl rfl ?_ ?_; rotate_left; (focus (intro wq hSw; clear hSw; go_simp; all_goals (with_reducible rfl))); simp only [Act.put, lzT, lzZ, lzS])
  (refine wpAnyH_tk 1 (some 111) (v := ?_) rfl rfl ?_ ?_; rotate_left; (focus (intro wq hSw; clear hSw; go_simp; all_goals (with_reducible rfl))); simp only [Act.put, lzT, lzZ, lzS])
  (refine wpAnyH_tk 2 (some 112) (v := ?_) rfl rfl ?_ ?_; rotate_left; (focus (intro wq hSw; clear hSw; go_simp; all_goals (with_reducible rfl))); simp only [Act.put, lzT, lzZ, lzS])
  refine wpAnyH_takeD (i := 3) (d := (some 113)) (v := .agg ([.int .i64 D.id, .int .i64 D.nodes, .int .i64 (D.next + 1), .slice A1 n1 c1, .int .i64 0, .int .i64 D.clock, .slice A5 n5 c5, .slice A3 n3 c3, .slice A6 n6 c6]).toArray) rfl rfl (by kernel_rfl) (by kernel_rfl) (by kernel_rfl) (fun _ _ _ h => h) (yieldsIf_load_mid (by rfl) 27 _ rfl g 0 (by simp [Act.eval, Act.put]) ([.int .i64 D.id, .int .i64 D.nodes, .int .i64 (D.next + 1), .slice A1 n1 c1, .int .i64 0, .int .i64 D.clock, .slice A5 n5 c5, .slice A3 n3 c3, .slice A6 n6 c6]) _ (hS1) Try.underlying27 (by rfl) (by kernel_rfl)) (by assumption) ?_
  simp only [Act.put, lzT, lzZ, lzS]
  (refine wpAnyH_tk 4 (some 114) (v := ?_) rfl rfl ?_ ?_; rotate_left; (focus (intro wq hSw; clear hSw; go_simp; all_goals (with_reducible rfl))); simp only [Act.put, lzT, lzZ, lzS])
  (refine wpAnyH_tk 5 (some 115) (v := ?_) rfl rfl ?_ ?_; rotate_left; (focus (intro wq hSw; clear hSw; go_simp; all_goals (with_reducible rfl))); simp only [Act.put, lzT, lzZ, lzS])
  (refine wpAnyH_tk 6 (some 116) (v := ?_) rfl rfl ?_ ?_; rotate_left; (focus (intro wq hSw; clear hSw; go_simp; all_goals (with_reducible rfl))); simp only [Act.put, lzT, lzZ, lzS])
  (refine wpAnyH_tk 7 (some 117) (v := ?_) rfl rfl ?_ ?_; rotate_left; (focus (intro wq hSw; have q9 := hS3 wq hSw; clear hSw; go_simp; all_goals (with_reducible rfl))); simp only [Act.put, lzT, lzZ, lzS])
  refine wpAnyH_ready (rs := [8]) (by kernel_rfl) (by simp) ?_
  refine AllReadyH.cons (o := _) rfl (fun K hK => ?_) AllReadyH.nil
  have hVz := HVf.out.up hbd
  have qf := hVz.frozen
  have ql := hVz.lt
  have h9 := hVz.box
  have q0 := h9.2 0 _ rfl
  have q1 := h9.2 1 _ rfl
  have q2 := h9.2 2 _ rfl
  have q3 := h9.2 3 _ rfl
  have q4 := h9.2 4 _ rfl
  have q5 := h9.2 5 _ rfl
  have q6 := h9.2 6 _ rfl
  have q7 := h9.2 7 _ rfl
  have q8 := h9.2 8 _ rfl
  clear h9
  go_simp
  clear qf ql q0 q1 q2 q3 q4 q5 q6 q7 q8
  have hW9 := set9 hVz rfl (.int .i64 D.id) (.int .i64 D.nodes) (.int .i64 (D.next + 1)) (.slice A1 n1 c1) (.int .i64 0) (.int .i64 D.clock) (.slice A5 n5 c5) (.slice A3 n3 c3) (.slice A6 n6 c6)
  have htz := TKeep.sets9 hVz (.int .i64 D.id) (.int .i64 D.nodes) (.int .i64 (D.next + 1)) (.slice A1 n1 c1) (.int .i64 0) (.int .i64 D.clock) (.slice A5 n5 c5) (.slice A3 n3 c3) (.slice A6 n6 c6)
  refine hK.out _ _ (hS5 _ hZ (.int .i64 D.id) (.int .i64 D.nodes) (.int .i64 (D.next + 1)) (.slice A1 n1 c1) (.int .i64 0) (.int .i64 D.clock) (.slice A5 n5 c5) (.slice A3 n3 c3) (.slice A6 n6 c6)) (fun hHeld => ?_)
  clear hK K
  (try simp only [Act.put, lzT, lzZ, lzS])
  (refine wpAnyH_tk 9 (some 5) (v := ?_) rfl rfl ?_ ?_; rotate_left; (focus (intro wq hSw; clear hSw; go_simp; all_goals (with_reducible rfl))); simp only [Act.put, lzT, lzZ, lzS])
  (refine wpAnyH_tk 10 (some 6) (v := ?_) rfl rfl ?_ ?_; rotate_left; (focus (intro wq hSw; clear hSw; go_simp; all_goals (with_reducible rfl))); simp only [Act.put, lzT, lzZ, lzS])
  refine wpAnyH_done (by kernel_rfl) ?_ _
  have hbz := bel_sets9 (bel_trans hbf hbd) hN1w (.int .i64 D.id) (.int .i64 D.nodes) (.int .i64 (D.next + 1)) (.slice A1 n1 c1) (.int .i64 0) (.int .i64 D.clock) (.slice A5 n5 c5) (.slice A3 n3 c3) (.slice A6 n6 c6)
  obtain ⟨Y, hY⟩ : ∃ Y, Y = (((((((((Z.setCell ⟨N1, 0, none⟩ (.int .i64 D.id)).setCell ⟨N1, 1, none⟩ (.int .i64 D.nodes)).setCell ⟨N1, 2, none⟩ (.int .i64 (D.next + 1))).setCell ⟨N1, 3, none⟩ (.slice A1 n1 c1)).setCell ⟨N1, 4, none⟩ (.int .i64 0)).setCell ⟨N1, 5, none⟩ (.int .i64 D.clock)).setCell ⟨N1, 6, none⟩ (.slice A5 n5 c5)).setCell ⟨N1, 7, none⟩ (.slice A3 n3 c3)).setCell ⟨N1, 8, none⟩ (.slice A6 n6 c6)) := ⟨_, rfl⟩
  rw [← hY] at hW9 htz hbz ⊢
  have hWOz := (HOf.out.up hbd).tk htz twWork
  have hMz := (HMf.out.up hbd).tk htz twWork
  have HWOz := Lib.hid hWOz
  have HMz := Lib.hid hMz
  have HBz := Lib.hid hbz
  have r_0 := (hW9.box).2 0 _ rfl; have r_1 := (hW9.box).2 1 _ rfl; have r_2 := (hW9.box).2 2 _ rfl; have r_3 := (hW9.box).2 3 _ rfl; have r_4 := (hW9.box).2 4 _ rfl; have r_5 := (hW9.box).2 5 _ rfl; have r_6 := (hW9.box).2 6 _ rfl; have r_7 := (hW9.box).2 7 _ rfl; have r_8 := (hW9.box).2 8 _ rfl
  clear hY hWOz hMz hbz htz hW9
  go_wp2_with fail
  exact bodyPost_ret (v := .tuple #[.agg #[.int .i64 D.id, .int .i64 D.nodes, .int .i64 (D.next + 1), .slice A1 n1 c1, .int .i64 0, .int .i64 D.clock, .slice A5 n5 c5, .slice A3 n3 c3, .slice A6 n6 c6], .slice A9 n9 c9, .int .i64 0]) (by simp [results, Try.results24, go_sem, r_0, r_1, r_2, r_3, r_4, r_5, r_6, r_7, r_8]) rfl ⟨⟨⟨A1, n1, c1⟩, ⟨A5, n5, c5⟩, ⟨A3, n3, c3⟩, ⟨A6, n6, c6⟩⟩, A9, n9, c9, rfl, HWOz.out, HMz.out, HBz.out⟩
end Go.Proofs.Ytgfakefcmbpboaa
