/- Messages copied: rows of one's own. -/
import Derived.Test.YtgfakefcmbpboaaGreatSuWec
namespace Go.Proofs.YtgfakefcmbpboaaGreat
set_option linter.all false
set_option maxRecDepth 100000
open Go.RowKit

theorem Blk.setsAt {g : Nat} {t : TypeId} : ∀ (vs : List Value) (o : Nat) (w : World) (cs : List Value), Blk w g t cs → o + vs.length ≤ cs.length → Blk (w.setCells g o vs) g t (cs.take o ++ vs ++ cs.drop (o + vs.length))
  | [], o, w, cs, h, _ => by simpa [World.setCells] using h
  | v :: r, o, w, cs, h, hl => by
    rw [World.setCells]
    have hl' : o + (r.length + 1) ≤ cs.length := by simpa using hl
    have ih := Blk.setsAt r (o + 1) _ _ (h.set_ o v) (by simp; omega)
    have e : (cs.set o v).take (o + 1) ++ r ++ (cs.set o v).drop (o + 1 + r.length) = cs.take o ++ (v :: r) ++ cs.drop (o + (v :: r).length) := by
      rw [List.drop_set_of_lt (by omega), List.take_set, List.length_cons, show o + 1 + r.length = o + (r.length + 1) by omega]
      have h1 : (cs.take (o + 1)).set o v = cs.take o ++ [v] := by
        rw [List.take_succ_eq_append_getElem (by omega)]
        rw [List.set_append_right _ _ (by simp; omega)]
        simp [Nat.min_eq_left (show o ≤ cs.length by omega)]
      rw [h1]; simp
    rwa [e] at ih
theorem Blk.setsAll {w : World} {g : Nat} {t : TypeId} {cs : List Value} (h : Blk w g t cs) (vs : List Value) (hl : vs.length = cs.length) : Blk (w.setCells g 0 vs) g t vs := by
  have := Blk.setsAt vs 0 w cs h (by omega)
  simpa [hl] using this
theorem Blk.setsFar {k g : Nat} {t : TypeId} {cs : List Value} : ∀ {vs : List Value} {o : Nat} {w : World}, Blk w k t cs → k ≠ g → Blk (w.setCells g o vs) k t cs
  | [], _, _, h, _ => h
  | v :: r, o, w, h, hne => by rw [World.setCells]; exact Blk.setsFar (h.far hne _) hne
theorem OwnI.lowSets {B g : Nat} {v : Value} {l : List Int} : ∀ {vs : List Value} {o : Nat} {w : World}, OwnI w B v l → g < B → OwnI (w.setCells g o vs) B v l
  | [], _, _, h, _ => h
  | u :: r, o, w, h, hp => by rw [World.setCells]; exact OwnI.lowSets (h.low hp _) hp
theorem OwnX.lowSets {B g : Nat} {v : Value} {l : List TxD} : ∀ {vs : List Value} {o : Nat} {w : World}, OwnX w B v l → g < B → OwnX (w.setCells g o vs) B v l
  | [], _, _, h, _ => h
  | u :: r, o, w, h, hp => by rw [World.setCells]; exact OwnX.lowSets (h.set3 hp _) hp
set_option maxHeartbeats 1000000 in
theorem ref0_CopyHeaderO (H : HeaderD) (bA pA : Option Addr) (bn bc pn pc : Nat) (w : World) (h1 : IntsR w bA bn H.ba) (h2 : IntsR w pA pn H.pa) (hbn : bn ≤ 800000000) (hpn : pn ≤ 800000000) :
    Calls Tryz.prog 92 #[.agg #[.int .i64 H.au, .int .i64 H.ro, .slice bA bn bc, .slice pA pn pc]] w fun e w' => ∃ u v, e = .returned (.agg #[.int .i64 H.au, .int .i64 H.ro, u, v]) ∧ OwnI w' w.heap.size u H.ba ∧ OwnI w' w.heap.size v H.pa ∧ Below w.heap.size w w' := by
  have G1 := ħ h1; have G2 := ħ h2
  clear h1 h2
  go_enter Tryz.func92, Tryz.ntmps92
  go_wp2_with fail
  refine (ref0_CopyNumbers _ _ _ H.ba _ (G1.out.up (belA)) (by omega)).mono ?_
  rintro e w1 ⟨v1, rfl, hown1, hb1⟩
  obtain ⟨A1, c1, rfl, -, -⟩ := hown1.ints (by rw [G1.out.1]; omega)
  have HO1 := ħ (hown1.mono (B' := w.heap.size + 3) (by simp))
  obtain ⟨n1, hn1⟩ : ∃ n1, n1 = H.ba.length := ⟨_, rfl⟩
  rw [← hn1] at HO1 ⊢
  clear hown1 hn1
  have hz_w1 : w.heap.size + 3 ≤ w1.heap.size := (by have hq := (hb1).size; (try simp at hq); omega); have hc0_w1 := fun o => (bcell hb1).1 (w.heap.size) o (by first | (simp; done) | (simp; omega) | omega); have hc1_w1 := fun o => (bcell hb1).1 (w.heap.size + 1) o (by first | (simp; done) | (simp; omega) | omega); have hc2_w1 := fun o => (bcell hb1).1 (w.heap.size + 2) o (by first | (simp; done) | (simp; omega) | omega); have hf0_w1 := fun o => (bcell hb1).2 (w.heap.size) o (by first | (simp; done) | (simp; omega) | omega); have hf1_w1 := fun o => (bcell hb1).2 (w.heap.size + 1) o (by first | (simp; done) | (simp; omega) | omega); have hf2_w1 := fun o => (bcell hb1).2 (w.heap.size + 2) o (by first | (simp; done) | (simp; omega) | omega)
  go_wp2_with fail
  refine (ref0_CopyNumbers _ _ _ H.pa _ (G2.out.up ((belB))) (by omega)).mono ?_
  rintro e w2 ⟨v2, rfl, hown2, hb2⟩
  obtain ⟨A2, c2, rfl, -, -⟩ := hown2.ints (by rw [G2.out.1]; omega)
  have HO2 := ħ (hown2.mono (B' := w.heap.size + 3) (by simp; omega))
  have HO3 := ħ ((HO1.out.low (b := w.heap.size + 1 + 1) (o := 2) (by omega) (.slice A1 n1 c1)).up hb2)
  obtain ⟨n2, hn2⟩ : ∃ n2, n2 = H.pa.length := ⟨_, rfl⟩
  rw [← hn2] at HO2 ⊢
  clear hown2 hn2 HO1
  have hz_w2 : w.heap.size + 3 ≤ w2.heap.size := (by have hq := (hb2).size; (try simp at hq); omega); have hc0_w2 := fun o => (bcell hb2).1 (w.heap.size) o (by first | (simp; done) | (simp; omega) | omega); have hc1_w2 := fun o => (bcell hb2).1 (w.heap.size + 1) o (by first | (simp; done) | (simp; omega) | omega); have hc2_w2 := fun o => (bcell hb2).1 (w.heap.size + 2) o (by first | (simp; done) | (simp; omega) | omega); have hf0_w2 := fun o => (bcell hb2).2 (w.heap.size) o (by first | (simp; done) | (simp; omega) | omega); have hf1_w2 := fun o => (bcell hb2).2 (w.heap.size + 1) o (by first | (simp; done) | (simp; omega) | omega); have hf2_w2 := fun o => (bcell hb2).2 (w.heap.size + 2) o (by first | (simp; done) | (simp; omega) | omega)
  go_wp2_with fail
  refine bodyPost_ret (v := .agg #[.int .i64 H.au, .int .i64 H.ro, .slice A1 n1 c1, .slice A2 n2 c2]) (by simp [results, Tryz.results92, go_sem, hc0_w1, hc1_w1, hc2_w1, hc0_w2, hc1_w2, hc2_w2]) rfl ⟨_, _, rfl, ?_, ?_, belB⟩
  · refine OwnI.mono (B := w.heap.size + 3) ?_ (by omega)
    (repeat (first | (with_reducible exact HO3.out) | ((with_reducible refine OwnI.low ?_ ?_ _); rotate_left; (omega))))
  · refine OwnI.mono (B := w.heap.size + 3) ?_ (by omega)
    (repeat (first | (with_reducible exact HO2.out) | ((with_reducible refine OwnI.low ?_ ?_ _); rotate_left; (omega))))
set_option maxHeartbeats 1000000 in
theorem ref0_CopyCertO (C : CertD) (bA pA sA : Option Addr) (bn bc pn pc sn sc : Nat) (w : World) (h1 : IntsR w bA bn C.h.ba) (h2 : IntsR w pA pn C.h.pa) (h3 : IntsR w sA sn C.si) (hbn : bn ≤ 800000000) (hpn : pn ≤ 800000000) (hsn : sn ≤ 800000000) :
    Calls Tryz.prog 93 #[.agg #[.int .i64 C.h.au, .int .i64 C.h.ro, .slice bA bn bc, .slice pA pn pc, .int .i64 C.di, .slice sA sn sc]] w fun e w' => ∃ u v z, e = .returned (.agg #[.int .i64 C.h.au, .int .i64 C.h.ro, u, v, .int .i64 C.di, z]) ∧ OwnI w' w.heap.size u C.h.ba ∧ OwnI w' w.heap.size v C.h.pa ∧ OwnI w' w.heap.size z C.si ∧ Below w.heap.size w w' := by
  have G1 := ħ h1; have G2 := ħ h2; have G3 := ħ h3
  clear h1 h2 h3
  go_enter Tryz.func93, Tryz.ntmps93
  go_wp2_with fail
  refine (ref0_CopyHeaderO C.h _ _ _ _ _ _ _ (G1.out.up (belA)) (G2.out.up (belA)) hbn hpn).mono ?_
  rintro e w1 ⟨u1, v1, rfl, hownu, hownv, hb1⟩
  obtain ⟨A1, c1, rfl, -, -⟩ := hownu.ints (by rw [G1.out.1]; omega)
  obtain ⟨A2, c2, rfl, -, -⟩ := hownv.ints (by rw [G2.out.1]; omega)
  have HU := ħ (hownu.mono (B' := w.heap.size + 3) (by simp))
  have HV := ħ (hownv.mono (B' := w.heap.size + 3) (by simp))
  obtain ⟨n1, hn1⟩ : ∃ n1, n1 = C.h.ba.length := ⟨_, rfl⟩
  obtain ⟨n2, hn2⟩ : ∃ n2, n2 = C.h.pa.length := ⟨_, rfl⟩
  rw [← hn1] at HU ⊢
  rw [← hn2] at HV ⊢
  clear hownu hownv hn1 hn2
  have hz_w1 : w.heap.size + 3 ≤ w1.heap.size := (by have hq := (hb1).size; (try simp at hq); omega); have hc0_w1 := fun o => (bcell hb1).1 (w.heap.size) o (by first | (simp; done) | (simp; omega) | omega); have hc1_w1 := fun o => (bcell hb1).1 (w.heap.size + 1) o (by first | (simp; done) | (simp; omega) | omega); have hc2_w1 := fun o => (bcell hb1).1 (w.heap.size + 2) o (by first | (simp; done) | (simp; omega) | omega); have hf0_w1 := fun o => (bcell hb1).2 (w.heap.size) o (by first | (simp; done) | (simp; omega) | omega); have hf1_w1 := fun o => (bcell hb1).2 (w.heap.size + 1) o (by first | (simp; done) | (simp; omega) | omega); have hf2_w1 := fun o => (bcell hb1).2 (w.heap.size + 2) o (by first | (simp; done) | (simp; omega) | omega)
  go_wp2_with fail
  refine (ref0_CopyNumbers _ _ _ C.si _ (G3.out.up ((belB))) (by omega)).mono ?_
  rintro e w2 ⟨v2, rfl, hown2, hb2⟩
  obtain ⟨A3, c3, rfl, -, -⟩ := hown2.ints (by rw [G3.out.1]; omega)
  have HO2 := ħ (hown2.mono (B' := w.heap.size + 3) (by simp; omega))
  obtain ⟨n3, hn3⟩ : ∃ n3, n3 = C.si.length := ⟨_, rfl⟩
  rw [← hn3] at HO2 ⊢
  have hs2 := hb2.size
  clear hown2 hn3
  have hz_w2 : w.heap.size + 3 ≤ w2.heap.size := (by have hq := (hb2).size; (try simp at hq); omega); have hc0_w2 := fun o => (bcell hb2).1 (w.heap.size) o (by first | (simp; done) | (simp; omega) | omega); have hc1_w2 := fun o => (bcell hb2).1 (w.heap.size + 1) o (by first | (simp; done) | (simp; omega) | omega); have hc2_w2 := fun o => (bcell hb2).1 (w.heap.size + 2) o (by first | (simp; done) | (simp; omega) | omega); have hf0_w2 := fun o => (bcell hb2).2 (w.heap.size) o (by first | (simp; done) | (simp; omega) | omega); have hf1_w2 := fun o => (bcell hb2).2 (w.heap.size + 1) o (by first | (simp; done) | (simp; omega) | omega); have hf2_w2 := fun o => (bcell hb2).2 (w.heap.size + 2) o (by first | (simp; done) | (simp; omega) | omega)
  go_wp2_with fail
  refine bodyPost_ret (v := .agg #[.int .i64 C.h.au, .int .i64 C.h.ro, .slice A1 n1 c1, .slice A2 n2 c2, .int .i64 C.di, .slice A3 n3 c3]) (by simp [results, Tryz.results93, go_sem, hc0_w1, hc1_w1, hc2_w1, hc0_w2, hc1_w2, hc2_w2]) rfl ⟨_, _, _, rfl, ?_, ?_, ?_, belB⟩
  · refine OwnI.mono (B := w.heap.size + 3) ?_ (by omega)
    (repeat (first | (with_reducible exact HU.out) | ((with_reducible refine OwnI.low ?_ ?_ _); rotate_left; (omega)) | (with_reducible refine OwnI.up ?_ hb2)))
  · refine OwnI.mono (B := w.heap.size + 3) ?_ (by omega)
    (repeat (first | (with_reducible exact HV.out) | ((with_reducible refine OwnI.low ?_ ?_ _); rotate_left; (omega)) | (with_reducible refine OwnI.up ?_ hb2)))
  · refine OwnI.mono (B := w.heap.size + 3) ?_ (by omega)
    (repeat (first | (with_reducible exact HO2.out) | ((with_reducible refine OwnI.low ?_ ?_ _); rotate_left; (omega))))

set_option maxHeartbeats 8000000 in
theorem ref0_CopyMessageO (P : MsgP) (M : MsgD) (w : World) (h : MsgR w P M) (hs : BigM M) :
    Calls Tryz.prog 50 #[M18 P M] w fun e w' => ∃ Q, e = .returned (M18 Q M) ∧ OwnM w' w.heap.size Q M ∧ Below w.heap.size w w' := by
  obtain ⟨⟨bA, bn, bc⟩, ⟨⟨xA, xn, xc⟩, ⟨yA, yn, yc⟩⟩, ⟨⟨⟨cA, cn, cd⟩, ⟨dA, dn, dc⟩⟩, ⟨sA, sn, sc⟩⟩, ⟨eA, en, ec⟩⟩ := P
  obtain ⟨ki, fr, tt, di, b, hd, cc, ds⟩ := M
  have G1 : Hid (TxsR w bA bn b.tx) := ħ h.tx
  have G2 : Hid (IntsR w xA xn hd.ba) := ħ h.h.1
  have G3 : Hid (IntsR w yA yn hd.pa) := ħ h.h.2
  have G4 : Hid (IntsR w cA cn cc.h.ba) := ħ h.c.1.1
  have G5 : Hid (IntsR w dA dn cc.h.pa) := ħ h.c.1.2
  have G6 : Hid (IntsR w sA sn cc.si) := ħ h.c.2
  have G7 : Hid (IntsR w eA en ds) := ħ h.ds
  have s1 : bn ≤ 800000000 := by have e : b.tx.length = bn := h.tx.1; have := hs.b; simp only at this; omega
  have s2 : xn ≤ 800000000 := by have e : hd.ba.length = xn := h.h.1.1; have := hs.h1; simp only at this; omega
  have s3 : yn ≤ 800000000 := by have e : hd.pa.length = yn := h.h.2.1; have := hs.h2; simp only at this; omega
  have s4 : cn ≤ 800000000 := by have e : cc.h.ba.length = cn := h.c.1.1.1; have := hs.c1; simp only at this; omega
  have s5 : dn ≤ 800000000 := by have e : cc.h.pa.length = dn := h.c.1.2.1; have := hs.c2; simp only at this; omega
  have s6 : sn ≤ 800000000 := by have e : cc.si.length = sn := h.c.2.1; have := hs.c3; simp only at this; omega
  have s7 : en ≤ 800000000 := by have e : ds.length = en := h.ds.1; have := hs.ds; simp only at this; omega
  have S := ħ (And.intro s1 (And.intro s2 (And.intro s3 (And.intro s4 (And.intro s5 (And.intro s6 s7))))))
  clear h hs s1 s2 s3 s4 s5 s6 s7
  show Calls Tryz.prog 50 #[.agg #[.int .i64 ki, .int .i64 fr, .int .i64 tt, .int .i64 di, .int .i64 b.au, .int .i64 b.n, .slice bA bn bc, .int .i64 hd.au, .int .i64 hd.ro, .slice xA xn xc, .slice yA yn yc, .int .i64 cc.h.au, .int .i64 cc.h.ro, .slice cA cn cd, .slice dA dn dc, .int .i64 cc.di, .slice sA sn sc, .slice eA en ec]] w _
  go_enter Tryz.func50, Tryz.ntmps50
  go_upto_region 1 with fail
  refine wp_world (fun W hW => ?_)
  have HM : Hid (Blk W w.heap.size 49 [.int .i64 ki, .int .i64 fr, .int .i64 tt, .int .i64 di, .int .i64 b.au, .int .i64 b.n, .slice bA bn bc, .int .i64 hd.au, .int .i64 hd.ro, .slice xA xn xc, .slice yA yn yc, .int .i64 cc.h.au, .int .i64 cc.h.ro, .slice cA cn cd, .slice dA dn dc, .int .i64 cc.di, .slice sA sn sc, .slice eA en ec]) := ħ (by rw [hW]; exact (Blk.new w 49 [.int .i64 ki, .int .i64 fr, .int .i64 tt, .int .i64 di, .int .i64 b.au, .int .i64 b.n, .slice bA bn bc, .int .i64 hd.au, .int .i64 hd.ro, .slice xA xn xc, .slice yA yn yc, .int .i64 cc.h.au, .int .i64 cc.h.ro, .slice cA cn cd, .slice dA dn dc, .int .i64 cc.di, .slice sA sn sc, .slice eA en ec]).up (bel_alloc (Below.refl _ _)))
  have HR : Hid (Blk W (w.heap.size + 1) 49 [.int .i64 0, .int .i64 0, .int .i64 0, .int .i64 0, .int .i64 0, .int .i64 0, .slice none 0 0, .int .i64 0, .int .i64 0, .slice none 0 0, .slice none 0 0, .int .i64 0, .int .i64 0, .slice none 0 0, .slice none 0 0, .int .i64 0, .slice none 0 0, .slice none 0 0]) := ħ (by rw [hW]; exact Blk.new1 w 49 49 [.int .i64 ki, .int .i64 fr, .int .i64 tt, .int .i64 di, .int .i64 b.au, .int .i64 b.n, .slice bA bn bc, .int .i64 hd.au, .int .i64 hd.ro, .slice xA xn xc, .slice yA yn yc, .int .i64 cc.h.au, .int .i64 cc.h.ro, .slice cA cn cd, .slice dA dn dc, .int .i64 cc.di, .slice sA sn sc, .slice eA en ec] [.int .i64 0, .int .i64 0, .int .i64 0, .int .i64 0, .int .i64 0, .int .i64 0, .slice none 0 0, .int .i64 0, .int .i64 0, .slice none 0 0, .slice none 0 0, .int .i64 0, .int .i64 0, .slice none 0 0, .slice none 0 0, .int .i64 0, .slice none 0 0, .slice none 0 0])
  have hb0 : Below w.heap.size w W := by rw [hW]; exact bel_alloc (bel_alloc (Below.refl _ _))
  have hsz : W.heap.size = w.heap.size + 2 := by rw [hW]; simp
  have HSZ := ħ hsz
  clear hW hsz
  refine wp_region_list ?_
  simp only [List.toList_toArray]
  refine wpList_load_mid rfl 49 _ rfl w.heap.size 0 (by simp [Act.eval, Act.put]) [.int .i64 ki, .int .i64 fr, .int .i64 tt, .int .i64 di, .int .i64 b.au, .int .i64 b.n, .slice bA bn bc, .int .i64 hd.au, .int .i64 hd.ro, .slice xA xn xc, .slice yA yn yc, .int .i64 cc.h.au, .int .i64 cc.h.ro, .slice cA cn cd, .slice dA dn dc, .int .i64 cc.di, .slice sA sn sc, .slice eA en ec] _ HM.out.rng Tryz.underlying49 (by rfl) (by kernel_rfl) ?_
  (try simp only [lz])
  refine wpList_plain rfl (fun K hK => ?_)
  go_simp
  refine hK _ _ ?_
  clear hK K
  (try simp only [lz])
  refine wpList_store_mid rfl 49 _ _ rfl W.heap.size 0 ([.int .i64 ki, .int .i64 fr, .int .i64 tt, .int .i64 di, .int .i64 b.au, .int .i64 b.n, .slice bA bn bc, .int .i64 hd.au, .int .i64 hd.ro, .slice xA xn xc, .slice yA yn yc, .int .i64 cc.h.au, .int .i64 cc.h.ro, .slice cA cn cd, .slice dA dn dc, .int .i64 cc.di, .slice sA sn sc, .slice eA en ec]).toArray (by simp [Act.eval, Act.put]) (by simp [Act.eval, Act.put]) (Blk.new W 49 [.int .i64 0, .int .i64 0, .int .i64 0, .int .i64 0, .int .i64 0, .int .i64 0, .slice none 0 0, .int .i64 0, .int .i64 0, .slice none 0 0, .slice none 0 0, .int .i64 0, .int .i64 0, .slice none 0 0, .slice none 0 0, .int .i64 0, .slice none 0 0, .slice none 0 0]).thr (by kernel_rfl) (all_oneCell_toArray (by simp [Value.oneCell'])) ?_
  (try simp only [lz])
  refine wpList_nil ?_
  try simp only [List.toList_toArray]
  rename_i K hK
  refine hK _ _ ?_
  clear hK K
  (try simp only [lz])
  refine wp_world (fun V hV => ?_)
  obtain ⟨N, hN⟩ : ∃ N, N = W.heap.size := ⟨_, rfl⟩
  rw [← hN] at hV ⊢
  have hB1 : Blk (W.alloc (.cells #[.int .i64 0, .int .i64 0, .int .i64 0, .int .i64 0, .int .i64 0, .int .i64 0, .slice none 0 0, .int .i64 0, .int .i64 0, .slice none 0 0, .slice none 0 0, .int .i64 0, .int .i64 0, .slice none 0 0, .slice none 0 0, .int .i64 0, .slice none 0 0, .slice none 0 0] 49)) N 49 [.int .i64 0, .int .i64 0, .int .i64 0, .int .i64 0, .int .i64 0, .int .i64 0, .slice none 0 0, .int .i64 0, .int .i64 0, .slice none 0 0, .slice none 0 0, .int .i64 0, .int .i64 0, .slice none 0 0, .slice none 0 0, .int .i64 0, .slice none 0 0, .slice none 0 0] := by rw [hN]; exact Blk.new W 49 [.int .i64 0, .int .i64 0, .int .i64 0, .int .i64 0, .int .i64 0, .int .i64 0, .slice none 0 0, .int .i64 0, .int .i64 0, .slice none 0 0, .slice none 0 0, .int .i64 0, .int .i64 0, .slice none 0 0, .slice none 0 0, .int .i64 0, .slice none 0 0, .slice none 0 0]
  have HX : Hid (Blk V N 49 [.int .i64 ki, .int .i64 fr, .int .i64 tt, .int .i64 di, .int .i64 b.au, .int .i64 b.n, .slice bA bn bc, .int .i64 hd.au, .int .i64 hd.ro, .slice xA xn xc, .slice yA yn yc, .int .i64 cc.h.au, .int .i64 cc.h.ro, .slice cA cn cd, .slice dA dn dc, .int .i64 cc.di, .slice sA sn sc, .slice eA en ec]) := ħ (by rw [hV]; exact hB1.setsAll [.int .i64 ki, .int .i64 fr, .int .i64 tt, .int .i64 di, .int .i64 b.au, .int .i64 b.n, .slice bA bn bc, .int .i64 hd.au, .int .i64 hd.ro, .slice xA xn xc, .slice yA yn yc, .int .i64 cc.h.au, .int .i64 cc.h.ro, .slice cA cn cd, .slice dA dn dc, .int .i64 cc.di, .slice sA sn sc, .slice eA en ec] rfl)
  have hn2 : w.heap.size + 2 ≤ N := by rw [hN, HSZ.out]; exact Nat.le_refl _
  have HM2 := ħ ((HM.out.up (bel_alloc (o := .cells #[.int .i64 0, .int .i64 0, .int .i64 0, .int .i64 0, .int .i64 0, .int .i64 0, .slice none 0 0, .int .i64 0, .int .i64 0, .slice none 0 0, .slice none 0 0, .int .i64 0, .int .i64 0, .slice none 0 0, .slice none 0 0, .int .i64 0, .slice none 0 0, .slice none 0 0] 49) (Below.refl _ _))).setsFar (g := N) (o := 0) (vs := [.int .i64 ki, .int .i64 fr, .int .i64 tt, .int .i64 di, .int .i64 b.au, .int .i64 b.n, .slice bA bn bc, .int .i64 hd.au, .int .i64 hd.ro, .slice xA xn xc, .slice yA yn yc, .int .i64 cc.h.au, .int .i64 cc.h.ro, .slice cA cn cd, .slice dA dn dc, .int .i64 cc.di, .slice sA sn sc, .slice eA en ec]) (by omega))
  have HR2 := ħ ((HR.out.up (bel_alloc (o := .cells #[.int .i64 0, .int .i64 0, .int .i64 0, .int .i64 0, .int .i64 0, .int .i64 0, .slice none 0 0, .int .i64 0, .int .i64 0, .slice none 0 0, .slice none 0 0, .int .i64 0, .int .i64 0, .slice none 0 0, .slice none 0 0, .int .i64 0, .slice none 0 0, .slice none 0 0] 49) (Below.refl _ _))).setsFar (g := N) (o := 0) (vs := [.int .i64 ki, .int .i64 fr, .int .i64 tt, .int .i64 di, .int .i64 b.au, .int .i64 b.n, .slice bA bn bc, .int .i64 hd.au, .int .i64 hd.ro, .slice xA xn xc, .slice yA yn yc, .int .i64 cc.h.au, .int .i64 cc.h.ro, .slice cA cn cd, .slice dA dn dc, .int .i64 cc.di, .slice sA sn sc, .slice eA en ec]) (by omega))
  have hb2 : Below w.heap.size w V := by rw [hV]; exact bel_setCells (by omega) _ _ _ (bel_alloc hb0)
  rw [← hV] at HM2 HR2
  clear hV hN hB1 HSZ HM HR hb0 W
  have hb0 := hb2; clear hb2
  have HM := HM2; clear HM2
  have HR := HR2; clear HR2
  have hnV : N < V.heap.size := HX.out.lt
  have hgV : w.heap.size < V.heap.size := HM.out.lt
  have m4 := HM.out.box.2 4 _ rfl
  have m5 := HM.out.box.2 5 _ rfl
  have m6 := HM.out.box.2 6 _ rfl
  go_upto_region 3 with (go_at_call 86; refine (ref0_CopyBatchO b bA bn bc _ (G1.out.up (by (repeat (first | (with_reducible exact Below.refl _ _) | (with_reducible assumption) | (with_reducible apply bel_alloc) | (with_reducible apply bel_drew) | (with_reducible apply bel_drewN) | (with_reducible refine bel_trans ?_ (by with_reducible assumption)) | (with_reducible refine bel_trans ?_ (HF.out _)) | ((with_reducible refine bel_set3 ?_ ?_); rotate_left; omega))))) S.out.1).mono ?_; rintro e w1 ⟨vOB, rfl, hOB, hb1⟩; obtain ⟨bA', bc', rfl, -, -⟩ := hOB.txs (by have := S.out; have := G1.out.1; omega); (obtain ⟨bn', hnOB⟩ : ∃ z, z = b.tx.length := ⟨_, rfl⟩); rw [← hnOB]; rw [← hnOB] at hOB; clear hnOB; have hX1 := HX.out.up hb1; have hn1 := hX1.lt; have x4 := hX1.box.2 4 _ rfl; have x5 := hX1.box.2 5 _ rfl; have x6 := hX1.box.2 6 _ rfl; have f4 := hX1.frozen 4; have f5 := hX1.frozen 5; have f6 := hX1.frozen 6; clear m4 m5 m6)
  refine wp_world (fun V2 hV2 => ?_)
  have HX2 : Hid (Blk V2 N 49 [.int .i64 ki, .int .i64 fr, .int .i64 tt, .int .i64 di, .int .i64 b.au, .int .i64 b.n, .slice bA' bn' bc', .int .i64 hd.au, .int .i64 hd.ro, .slice xA xn xc, .slice yA yn yc, .int .i64 cc.h.au, .int .i64 cc.h.ro, .slice cA cn cd, .slice dA dn dc, .int .i64 cc.di, .slice sA sn sc, .slice eA en ec]) := ħ (by rw [hV2]; exact (((HX.out.up hb1).set_ 4 (.int .i64 b.au)).set_ 5 (.int .i64 b.n)).set_ 6 (.slice bA' bn' bc'))
  have HM2 : Hid (Blk V2 w.heap.size 49 [.int .i64 ki, .int .i64 fr, .int .i64 tt, .int .i64 di, .int .i64 b.au, .int .i64 b.n, .slice bA bn bc, .int .i64 hd.au, .int .i64 hd.ro, .slice xA xn xc, .slice yA yn yc, .int .i64 cc.h.au, .int .i64 cc.h.ro, .slice cA cn cd, .slice dA dn dc, .int .i64 cc.di, .slice sA sn sc, .slice eA en ec]) := ħ (by rw [hV2]; exact (((HM.out.up hb1).far (p := ⟨N, _, none⟩) (by show w.heap.size ≠ N; omega) _).far (p := ⟨N, _, none⟩) (by show w.heap.size ≠ N; omega) _).far (p := ⟨N, _, none⟩) (by show w.heap.size ≠ N; omega) _)
  have HR2 : Hid (Blk V2 (w.heap.size + 1) 49 [.int .i64 0, .int .i64 0, .int .i64 0, .int .i64 0, .int .i64 0, .int .i64 0, .slice none 0 0, .int .i64 0, .int .i64 0, .slice none 0 0, .slice none 0 0, .int .i64 0, .int .i64 0, .slice none 0 0, .slice none 0 0, .int .i64 0, .slice none 0 0, .slice none 0 0]) := ħ (by rw [hV2]; exact (((HR.out.up hb1).far (p := ⟨N, _, none⟩) (by show w.heap.size + 1 ≠ N; omega) _).far (p := ⟨N, _, none⟩) (by show w.heap.size + 1 ≠ N; omega) _).far (p := ⟨N, _, none⟩) (by show w.heap.size + 1 ≠ N; omega) _)
  have hb2 : Below w.heap.size w V2 := by rw [hV2]; exact (((bel_trans hb0 hb1).setCell (p := ⟨N, 4, none⟩) (by show _ ≤ N; omega) _).setCell (p := ⟨N, 5, none⟩) (by show _ ≤ N; omega) _).setCell (p := ⟨N, 6, none⟩) (by show _ ≤ N; omega) _
  have HOB2 : Hid (OwnX V2 (N + 1) (.slice bA' bn' bc') b.tx) := ħ (by rw [hV2]; exact ((((hOB.mono (B' := N + 1) hnV)).set3 (by omega) _).set3 (by omega) _).set3 (by omega) _)
  clear hV2 hb1 hb0 HX HM HR hX1 hnV hgV hn1 w1 V x4 f4 x5 f5 x6 f6  hOB
  obtain ⟨V, hV⟩ : ∃ V, V = V2 := ⟨_, rfl⟩
  rw [← hV] at hb2 HX2 HM2 HR2 HOB2 ⊢
  have hb0 := hb2; clear hb2 hV V2
  have HX := HX2; clear HX2
  have HM := HM2; clear HM2
  have HR := HR2; clear HR2
  have HOB := HOB2; clear HOB2
  have hnV : N < V.heap.size := HX.out.lt
  have hgV : w.heap.size < V.heap.size := HM.out.lt
  have m7 := HM.out.box.2 7 _ rfl
  have m8 := HM.out.box.2 8 _ rfl
  have m9 := HM.out.box.2 9 _ rfl
  have m10 := HM.out.box.2 10 _ rfl
  go_upto_region 4 with (go_at_call 92; refine (ref0_CopyHeaderO hd xA yA xn xc yn yc _ (G2.out.up (by (repeat (first | (with_reducible exact Below.refl _ _) | (with_reducible assumption) | (with_reducible apply bel_alloc) | (with_reducible apply bel_drew) | (with_reducible apply bel_drewN) | (with_reducible refine bel_trans ?_ (by with_reducible assumption)) | (with_reducible refine bel_trans ?_ (HF.out _)) | ((with_reducible refine bel_set3 ?_ ?_); rotate_left; omega))))) (G3.out.up (by (repeat (first | (with_reducible exact Below.refl _ _) | (with_reducible assumption) | (with_reducible apply bel_alloc) | (with_reducible apply bel_drew) | (with_reducible apply bel_drewN) | (with_reducible refine bel_trans ?_ (by with_reducible assumption)) | (with_reducible refine bel_trans ?_ (HF.out _)) | ((with_reducible refine bel_set3 ?_ ?_); rotate_left; omega))))) S.out.2.1 S.out.2.2.1).mono ?_; rintro e w1 ⟨vOX, vOY, rfl, hOX, hOY, hb1⟩; obtain ⟨xA', xc', rfl, -, -⟩ := hOX.ints (by have := S.out; have := G2.out.1; omega); obtain ⟨yA', yc', rfl, -, -⟩ := hOY.ints (by have := S.out; have := G3.out.1; omega); (obtain ⟨xn', hnOX⟩ : ∃ z, z = hd.ba.length := ⟨_, rfl⟩); (obtain ⟨yn', hnOY⟩ : ∃ z, z = hd.pa.length := ⟨_, rfl⟩); rw [← hnOX, ← hnOY]; rw [← hnOX] at hOX; rw [← hnOY] at hOY; clear hnOX hnOY; have hX1 := HX.out.up hb1; have hn1 := hX1.lt; have x7 := hX1.box.2 7 _ rfl; have x8 := hX1.box.2 8 _ rfl; have x9 := hX1.box.2 9 _ rfl; have x10 := hX1.box.2 10 _ rfl; have f7 := hX1.frozen 7; have f8 := hX1.frozen 8; have f9 := hX1.frozen 9; have f10 := hX1.frozen 10; clear m7 m8 m9 m10)
  refine wp_world (fun V2 hV2 => ?_)
  have HX2 : Hid (Blk V2 N 49 [.int .i64 ki, .int .i64 fr, .int .i64 tt, .int .i64 di, .int .i64 b.au, .int .i64 b.n, .slice bA' bn' bc', .int .i64 hd.au, .int .i64 hd.ro, .slice xA' xn' xc', .slice yA' yn' yc', .int .i64 cc.h.au, .int .i64 cc.h.ro, .slice cA cn cd, .slice dA dn dc, .int .i64 cc.di, .slice sA sn sc, .slice eA en ec]) := ħ (by rw [hV2]; exact ((((HX.out.up hb1).set_ 7 (.int .i64 hd.au)).set_ 8 (.int .i64 hd.ro)).set_ 9 (.slice xA' xn' xc')).set_ 10 (.slice yA' yn' yc'))
  have HM2 : Hid (Blk V2 w.heap.size 49 [.int .i64 ki, .int .i64 fr, .int .i64 tt, .int .i64 di, .int .i64 b.au, .int .i64 b.n, .slice bA bn bc, .int .i64 hd.au, .int .i64 hd.ro, .slice xA xn xc, .slice yA yn yc, .int .i64 cc.h.au, .int .i64 cc.h.ro, .slice cA cn cd, .slice dA dn dc, .int .i64 cc.di, .slice sA sn sc, .slice eA en ec]) := ħ (by rw [hV2]; exact ((((HM.out.up hb1).far (p := ⟨N, _, none⟩) (by show w.heap.size ≠ N; omega) _).far (p := ⟨N, _, none⟩) (by show w.heap.size ≠ N; omega) _).far (p := ⟨N, _, none⟩) (by show w.heap.size ≠ N; omega) _).far (p := ⟨N, _, none⟩) (by show w.heap.size ≠ N; omega) _)
  have HR2 : Hid (Blk V2 (w.heap.size + 1) 49 [.int .i64 0, .int .i64 0, .int .i64 0, .int .i64 0, .int .i64 0, .int .i64 0, .slice none 0 0, .int .i64 0, .int .i64 0, .slice none 0 0, .slice none 0 0, .int .i64 0, .int .i64 0, .slice none 0 0, .slice none 0 0, .int .i64 0, .slice none 0 0, .slice none 0 0]) := ħ (by rw [hV2]; exact ((((HR.out.up hb1).far (p := ⟨N, _, none⟩) (by show w.heap.size + 1 ≠ N; omega) _).far (p := ⟨N, _, none⟩) (by show w.heap.size + 1 ≠ N; omega) _).far (p := ⟨N, _, none⟩) (by show w.heap.size + 1 ≠ N; omega) _).far (p := ⟨N, _, none⟩) (by show w.heap.size + 1 ≠ N; omega) _)
  have hb2 : Below w.heap.size w V2 := by rw [hV2]; exact ((((bel_trans hb0 hb1).setCell (p := ⟨N, 7, none⟩) (by show _ ≤ N; omega) _).setCell (p := ⟨N, 8, none⟩) (by show _ ≤ N; omega) _).setCell (p := ⟨N, 9, none⟩) (by show _ ≤ N; omega) _).setCell (p := ⟨N, 10, none⟩) (by show _ ≤ N; omega) _
  have HOB2 : Hid (OwnX V2 (N + 1) (.slice bA' bn' bc') b.tx) := ħ (by rw [hV2]; exact (((((HOB.out.up hb1)).set3 (by omega) _).set3 (by omega) _).set3 (by omega) _).set3 (by omega) _)
  have HOX2 : Hid (OwnI V2 (N + 1) (.slice xA' xn' xc') hd.ba) := ħ (by rw [hV2]; exact (((((hOX.mono (B' := N + 1) hnV)).low (by omega) _).low (by omega) _).low (by omega) _).low (by omega) _)
  have HOY2 : Hid (OwnI V2 (N + 1) (.slice yA' yn' yc') hd.pa) := ħ (by rw [hV2]; exact (((((hOY.mono (B' := N + 1) hnV)).low (by omega) _).low (by omega) _).low (by omega) _).low (by omega) _)
  clear hV2 hb1 hb0 HX HM HR hX1 hnV hgV hn1 w1 V x7 f7 x8 f8 x9 f9 x10 f10 HOB hOX hOY
  obtain ⟨V, hV⟩ : ∃ V, V = V2 := ⟨_, rfl⟩
  rw [← hV] at hb2 HX2 HM2 HR2 HOB2 HOX2 HOY2 ⊢
  have hb0 := hb2; clear hb2 hV V2
  have HX := HX2; clear HX2
  have HM := HM2; clear HM2
  have HR := HR2; clear HR2
  have HOB := HOB2; clear HOB2
  have HOX := HOX2; clear HOX2
  have HOY := HOY2; clear HOY2
  have hnV : N < V.heap.size := HX.out.lt
  have hgV : w.heap.size < V.heap.size := HM.out.lt
  have m11 := HM.out.box.2 11 _ rfl
  have m12 := HM.out.box.2 12 _ rfl
  have m13 := HM.out.box.2 13 _ rfl
  have m14 := HM.out.box.2 14 _ rfl
  have m15 := HM.out.box.2 15 _ rfl
  have m16 := HM.out.box.2 16 _ rfl
  go_upto_region 5 with (go_at_call 93; refine (ref0_CopyCertO cc cA dA sA cn cd dn dc sn sc _ (G4.out.up (by (repeat (first | (with_reducible exact Below.refl _ _) | (with_reducible assumption) | (with_reducible apply bel_alloc) | (with_reducible apply bel_drew) | (with_reducible apply bel_drewN) | (with_reducible refine bel_trans ?_ (by with_reducible assumption)) | (with_reducible refine bel_trans ?_ (HF.out _)) | ((with_reducible refine bel_set3 ?_ ?_); rotate_left; omega))))) (G5.out.up (by (repeat (first | (with_reducible exact Below.refl _ _) | (with_reducible assumption) | (with_reducible apply bel_alloc) | (with_reducible apply bel_drew) | (with_reducible apply bel_drewN) | (with_reducible refine bel_trans ?_ (by with_reducible assumption)) | (with_reducible refine bel_trans ?_ (HF.out _)) | ((with_reducible refine bel_set3 ?_ ?_); rotate_left; omega))))) (G6.out.up (by (repeat (first | (with_reducible exact Below.refl _ _) | (with_reducible assumption) | (with_reducible apply bel_alloc) | (with_reducible apply bel_drew) | (with_reducible apply bel_drewN) | (with_reducible refine bel_trans ?_ (by with_reducible assumption)) | (with_reducible refine bel_trans ?_ (HF.out _)) | ((with_reducible refine bel_set3 ?_ ?_); rotate_left; omega))))) S.out.2.2.2.1 S.out.2.2.2.2.1 S.out.2.2.2.2.2.1).mono ?_; rintro e w1 ⟨vOC, vOD, vOS, rfl, hOC, hOD, hOS, hb1⟩; obtain ⟨cA', cd', rfl, -, -⟩ := hOC.ints (by have := S.out; have := G4.out.1; omega); obtain ⟨dA', dc', rfl, -, -⟩ := hOD.ints (by have := S.out; have := G5.out.1; omega); obtain ⟨sA', sc', rfl, -, -⟩ := hOS.ints (by have := S.out; have := G6.out.1; omega); (obtain ⟨cn', hnOC⟩ : ∃ z, z = cc.h.ba.length := ⟨_, rfl⟩); (obtain ⟨dn', hnOD⟩ : ∃ z, z = cc.h.pa.length := ⟨_, rfl⟩); (obtain ⟨sn', hnOS⟩ : ∃ z, z = cc.si.length := ⟨_, rfl⟩); rw [← hnOC, ← hnOD, ← hnOS]; rw [← hnOC] at hOC; rw [← hnOD] at hOD; rw [← hnOS] at hOS; clear hnOC hnOD hnOS; have hX1 := HX.out.up hb1; have hn1 := hX1.lt; have x11 := hX1.box.2 11 _ rfl; have x12 := hX1.box.2 12 _ rfl; have x13 := hX1.box.2 13 _ rfl; have x14 := hX1.box.2 14 _ rfl; have x15 := hX1.box.2 15 _ rfl; have x16 := hX1.box.2 16 _ rfl; have f11 := hX1.frozen 11; have f12 := hX1.frozen 12; have f13 := hX1.frozen 13; have f14 := hX1.frozen 14; have f15 := hX1.frozen 15; have f16 := hX1.frozen 16; clear m11 m12 m13 m14 m15 m16)
  refine wp_world (fun V2 hV2 => ?_)
  have HX2 : Hid (Blk V2 N 49 [.int .i64 ki, .int .i64 fr, .int .i64 tt, .int .i64 di, .int .i64 b.au, .int .i64 b.n, .slice bA' bn' bc', .int .i64 hd.au, .int .i64 hd.ro, .slice xA' xn' xc', .slice yA' yn' yc', .int .i64 cc.h.au, .int .i64 cc.h.ro, .slice cA' cn' cd', .slice dA' dn' dc', .int .i64 cc.di, .slice sA' sn' sc', .slice eA en ec]) := ħ (by rw [hV2]; exact ((((((HX.out.up hb1).set_ 11 (.int .i64 cc.h.au)).set_ 12 (.int .i64 cc.h.ro)).set_ 13 (.slice cA' cn' cd')).set_ 14 (.slice dA' dn' dc')).set_ 15 (.int .i64 cc.di)).set_ 16 (.slice sA' sn' sc'))
  have HM2 : Hid (Blk V2 w.heap.size 49 [.int .i64 ki, .int .i64 fr, .int .i64 tt, .int .i64 di, .int .i64 b.au, .int .i64 b.n, .slice bA bn bc, .int .i64 hd.au, .int .i64 hd.ro, .slice xA xn xc, .slice yA yn yc, .int .i64 cc.h.au, .int .i64 cc.h.ro, .slice cA cn cd, .slice dA dn dc, .int .i64 cc.di, .slice sA sn sc, .slice eA en ec]) := ħ (by rw [hV2]; exact ((((((HM.out.up hb1).far (p := ⟨N, _, none⟩) (by show w.heap.size ≠ N; omega) _).far (p := ⟨N, _, none⟩) (by show w.heap.size ≠ N; omega) _).far (p := ⟨N, _, none⟩) (by show w.heap.size ≠ N; omega) _).far (p := ⟨N, _, none⟩) (by show w.heap.size ≠ N; omega) _).far (p := ⟨N, _, none⟩) (by show w.heap.size ≠ N; omega) _).far (p := ⟨N, _, none⟩) (by show w.heap.size ≠ N; omega) _)
  have HR2 : Hid (Blk V2 (w.heap.size + 1) 49 [.int .i64 0, .int .i64 0, .int .i64 0, .int .i64 0, .int .i64 0, .int .i64 0, .slice none 0 0, .int .i64 0, .int .i64 0, .slice none 0 0, .slice none 0 0, .int .i64 0, .int .i64 0, .slice none 0 0, .slice none 0 0, .int .i64 0, .slice none 0 0, .slice none 0 0]) := ħ (by rw [hV2]; exact ((((((HR.out.up hb1).far (p := ⟨N, _, none⟩) (by show w.heap.size + 1 ≠ N; omega) _).far (p := ⟨N, _, none⟩) (by show w.heap.size + 1 ≠ N; omega) _).far (p := ⟨N, _, none⟩) (by show w.heap.size + 1 ≠ N; omega) _).far (p := ⟨N, _, none⟩) (by show w.heap.size + 1 ≠ N; omega) _).far (p := ⟨N, _, none⟩) (by show w.heap.size + 1 ≠ N; omega) _).far (p := ⟨N, _, none⟩) (by show w.heap.size + 1 ≠ N; omega) _)
  have hb2 : Below w.heap.size w V2 := by rw [hV2]; exact ((((((bel_trans hb0 hb1).setCell (p := ⟨N, 11, none⟩) (by show _ ≤ N; omega) _).setCell (p := ⟨N, 12, none⟩) (by show _ ≤ N; omega) _).setCell (p := ⟨N, 13, none⟩) (by show _ ≤ N; omega) _).setCell (p := ⟨N, 14, none⟩) (by show _ ≤ N; omega) _).setCell (p := ⟨N, 15, none⟩) (by show _ ≤ N; omega) _).setCell (p := ⟨N, 16, none⟩) (by show _ ≤ N; omega) _
  have HOB2 : Hid (OwnX V2 (N + 1) (.slice bA' bn' bc') b.tx) := ħ (by rw [hV2]; exact (((((((HOB.out.up hb1)).set3 (by omega) _).set3 (by omega) _).set3 (by omega) _).set3 (by omega) _).set3 (by omega) _).set3 (by omega) _)
  have HOX2 : Hid (OwnI V2 (N + 1) (.slice xA' xn' xc') hd.ba) := ħ (by rw [hV2]; exact (((((((HOX.out.up hb1)).low (by omega) _).low (by omega) _).low (by omega) _).low (by omega) _).low (by omega) _).low (by omega) _)
  have HOY2 : Hid (OwnI V2 (N + 1) (.slice yA' yn' yc') hd.pa) := ħ (by rw [hV2]; exact (((((((HOY.out.up hb1)).low (by omega) _).low (by omega) _).low (by omega) _).low (by omega) _).low (by omega) _).low (by omega) _)
  have HOC2 : Hid (OwnI V2 (N + 1) (.slice cA' cn' cd') cc.h.ba) := ħ (by rw [hV2]; exact (((((((hOC.mono (B' := N + 1) hnV)).low (by omega) _).low (by omega) _).low (by omega) _).low (by omega) _).low (by omega) _).low (by omega) _)
  have HOD2 : Hid (OwnI V2 (N + 1) (.slice dA' dn' dc') cc.h.pa) := ħ (by rw [hV2]; exact (((((((hOD.mono (B' := N + 1) hnV)).low (by omega) _).low (by omega) _).low (by omega) _).low (by omega) _).low (by omega) _).low (by omega) _)
  have HOS2 : Hid (OwnI V2 (N + 1) (.slice sA' sn' sc') cc.si) := ħ (by rw [hV2]; exact (((((((hOS.mono (B' := N + 1) hnV)).low (by omega) _).low (by omega) _).low (by omega) _).low (by omega) _).low (by omega) _).low (by omega) _)
  clear hV2 hb1 hb0 HX HM HR hX1 hnV hgV hn1 w1 V x11 f11 x12 f12 x13 f13 x14 f14 x15 f15 x16 f16 HOB HOX HOY hOC hOD hOS
  obtain ⟨V, hV⟩ : ∃ V, V = V2 := ⟨_, rfl⟩
  rw [← hV] at hb2 HX2 HM2 HR2 HOB2 HOX2 HOY2 HOC2 HOD2 HOS2 ⊢
  have hb0 := hb2; clear hb2 hV V2
  have HX := HX2; clear HX2
  have HM := HM2; clear HM2
  have HR := HR2; clear HR2
  have HOB := HOB2; clear HOB2
  have HOX := HOX2; clear HOX2
  have HOY := HOY2; clear HOY2
  have HOC := HOC2; clear HOC2
  have HOD := HOD2; clear HOD2
  have HOS := HOS2; clear HOS2
  have hnV : N < V.heap.size := HX.out.lt
  have hgV : w.heap.size < V.heap.size := HM.out.lt
  have m17 := HM.out.box.2 17 _ rfl
  go_upto_region 6 with (go_at_call 29; refine (ref0_CopyNumbers eA en ec ds _ (G7.out.up (by (repeat (first | (with_reducible exact Below.refl _ _) | (with_reducible assumption) | (with_reducible apply bel_alloc) | (with_reducible apply bel_drew) | (with_reducible apply bel_drewN) | (with_reducible refine bel_trans ?_ (by with_reducible assumption)) | (with_reducible refine bel_trans ?_ (HF.out _)) | ((with_reducible refine bel_set3 ?_ ?_); rotate_left; omega))))) (by have := S.out.2.2.2.2.2.2; omega)).mono ?_; rintro e w1 ⟨vOE, rfl, hOE, hb1⟩; obtain ⟨eA', ec', rfl, -, -⟩ := hOE.ints (by have := S.out; have := G7.out.1; omega); (obtain ⟨en', hnOE⟩ : ∃ z, z = ds.length := ⟨_, rfl⟩); rw [← hnOE]; rw [← hnOE] at hOE; clear hnOE; have hX1 := HX.out.up hb1; have hn1 := hX1.lt; have x17 := hX1.box.2 17 _ rfl; have f17 := hX1.frozen 17; clear m17)
  refine wp_world (fun V2 hV2 => ?_)
  have HX2 : Hid (Blk V2 N 49 [.int .i64 ki, .int .i64 fr, .int .i64 tt, .int .i64 di, .int .i64 b.au, .int .i64 b.n, .slice bA' bn' bc', .int .i64 hd.au, .int .i64 hd.ro, .slice xA' xn' xc', .slice yA' yn' yc', .int .i64 cc.h.au, .int .i64 cc.h.ro, .slice cA' cn' cd', .slice dA' dn' dc', .int .i64 cc.di, .slice sA' sn' sc', .slice eA' en' ec']) := ħ (by rw [hV2]; exact (HX.out.up hb1).set_ 17 (.slice eA' en' ec'))
  have HM2 : Hid (Blk V2 w.heap.size 49 [.int .i64 ki, .int .i64 fr, .int .i64 tt, .int .i64 di, .int .i64 b.au, .int .i64 b.n, .slice bA bn bc, .int .i64 hd.au, .int .i64 hd.ro, .slice xA xn xc, .slice yA yn yc, .int .i64 cc.h.au, .int .i64 cc.h.ro, .slice cA cn cd, .slice dA dn dc, .int .i64 cc.di, .slice sA sn sc, .slice eA en ec]) := ħ (by rw [hV2]; exact (HM.out.up hb1).far (p := ⟨N, _, none⟩) (by show w.heap.size ≠ N; omega) _)
  have HR2 : Hid (Blk V2 (w.heap.size + 1) 49 [.int .i64 0, .int .i64 0, .int .i64 0, .int .i64 0, .int .i64 0, .int .i64 0, .slice none 0 0, .int .i64 0, .int .i64 0, .slice none 0 0, .slice none 0 0, .int .i64 0, .int .i64 0, .slice none 0 0, .slice none 0 0, .int .i64 0, .slice none 0 0, .slice none 0 0]) := ħ (by rw [hV2]; exact (HR.out.up hb1).far (p := ⟨N, _, none⟩) (by show w.heap.size + 1 ≠ N; omega) _)
  have hb2 : Below w.heap.size w V2 := by rw [hV2]; exact (bel_trans hb0 hb1).setCell (p := ⟨N, 17, none⟩) (by show _ ≤ N; omega) _
  have HOB2 : Hid (OwnX V2 (N + 1) (.slice bA' bn' bc') b.tx) := ħ (by rw [hV2]; exact ((HOB.out.up hb1)).set3 (by omega) _)
  have HOX2 : Hid (OwnI V2 (N + 1) (.slice xA' xn' xc') hd.ba) := ħ (by rw [hV2]; exact ((HOX.out.up hb1)).low (by omega) _)
  have HOY2 : Hid (OwnI V2 (N + 1) (.slice yA' yn' yc') hd.pa) := ħ (by rw [hV2]; exact ((HOY.out.up hb1)).low (by omega) _)
  have HOC2 : Hid (OwnI V2 (N + 1) (.slice cA' cn' cd') cc.h.ba) := ħ (by rw [hV2]; exact ((HOC.out.up hb1)).low (by omega) _)
  have HOD2 : Hid (OwnI V2 (N + 1) (.slice dA' dn' dc') cc.h.pa) := ħ (by rw [hV2]; exact ((HOD.out.up hb1)).low (by omega) _)
  have HOS2 : Hid (OwnI V2 (N + 1) (.slice sA' sn' sc') cc.si) := ħ (by rw [hV2]; exact ((HOS.out.up hb1)).low (by omega) _)
  have HOE2 : Hid (OwnI V2 (N + 1) (.slice eA' en' ec') ds) := ħ (by rw [hV2]; exact ((hOE.mono (B' := N + 1) hnV)).low (by omega) _)
  clear hV2 hb1 hb0 HX HM HR hX1 hnV hgV hn1 w1 V x17 f17 HOB HOX HOY HOC HOD HOS hOE
  obtain ⟨V, hV⟩ : ∃ V, V = V2 := ⟨_, rfl⟩
  rw [← hV] at hb2 HX2 HM2 HR2 HOB2 HOX2 HOY2 HOC2 HOD2 HOS2 HOE2 ⊢
  have hb0 := hb2; clear hb2 hV V2
  have HX := HX2; clear HX2
  have HM := HM2; clear HM2
  have HR := HR2; clear HR2
  have HOB := HOB2; clear HOB2
  have HOX := HOX2; clear HOX2
  have HOY := HOY2; clear HOY2
  have HOC := HOC2; clear HOC2
  have HOD := HOD2; clear HOD2
  have HOS := HOS2; clear HOS2
  have HOE := HOE2; clear HOE2
  refine wp_region_list ?_
  simp only [List.toList_toArray]
  refine wpList_load_mid rfl 49 _ rfl N 0 (by simp [Act.eval, Act.put]) [.int .i64 ki, .int .i64 fr, .int .i64 tt, .int .i64 di, .int .i64 b.au, .int .i64 b.n, .slice bA' bn' bc', .int .i64 hd.au, .int .i64 hd.ro, .slice xA' xn' xc', .slice yA' yn' yc', .int .i64 cc.h.au, .int .i64 cc.h.ro, .slice cA' cn' cd', .slice dA' dn' dc', .int .i64 cc.di, .slice sA' sn' sc', .slice eA' en' ec'] _ HX.out.rng Tryz.underlying49 (by rfl) (by kernel_rfl) ?_
  (try simp only [lz])
  refine wpList_store_mid rfl 49 _ _ rfl (w.heap.size + 1) 0 ([.int .i64 ki, .int .i64 fr, .int .i64 tt, .int .i64 di, .int .i64 b.au, .int .i64 b.n, .slice bA' bn' bc', .int .i64 hd.au, .int .i64 hd.ro, .slice xA' xn' xc', .slice yA' yn' yc', .int .i64 cc.h.au, .int .i64 cc.h.ro, .slice cA' cn' cd', .slice dA' dn' dc', .int .i64 cc.di, .slice sA' sn' sc', .slice eA' en' ec']).toArray (by simp [Act.eval, Act.put]) (by simp [Act.eval, Act.put]) HR.out.thr (by kernel_rfl) (all_oneCell_toArray (by simp [Value.oneCell'])) ?_
  refine wpList_nil ?_
  try simp only [List.toList_toArray]
  have HF : Hid (Blk (V.setCells (w.heap.size + 1) 0 [.int .i64 ki, .int .i64 fr, .int .i64 tt, .int .i64 di, .int .i64 b.au, .int .i64 b.n, .slice bA' bn' bc', .int .i64 hd.au, .int .i64 hd.ro, .slice xA' xn' xc', .slice yA' yn' yc', .int .i64 cc.h.au, .int .i64 cc.h.ro, .slice cA' cn' cd', .slice dA' dn' dc', .int .i64 cc.di, .slice sA' sn' sc', .slice eA' en' ec']) (w.heap.size + 1) 49 [.int .i64 ki, .int .i64 fr, .int .i64 tt, .int .i64 di, .int .i64 b.au, .int .i64 b.n, .slice bA' bn' bc', .int .i64 hd.au, .int .i64 hd.ro, .slice xA' xn' xc', .slice yA' yn' yc', .int .i64 cc.h.au, .int .i64 cc.h.ro, .slice cA' cn' cd', .slice dA' dn' dc', .int .i64 cc.di, .slice sA' sn' sc', .slice eA' en' ec']) := ħ (HR.out.setsAll [.int .i64 ki, .int .i64 fr, .int .i64 tt, .int .i64 di, .int .i64 b.au, .int .i64 b.n, .slice bA' bn' bc', .int .i64 hd.au, .int .i64 hd.ro, .slice xA' xn' xc', .slice yA' yn' yc', .int .i64 cc.h.au, .int .i64 cc.h.ro, .slice cA' cn' cd', .slice dA' dn' dc', .int .i64 cc.di, .slice sA' sn' sc', .slice eA' en' ec'] rfl)
  have hb2 : Below w.heap.size w (V.setCells (w.heap.size + 1) 0 [.int .i64 ki, .int .i64 fr, .int .i64 tt, .int .i64 di, .int .i64 b.au, .int .i64 b.n, .slice bA' bn' bc', .int .i64 hd.au, .int .i64 hd.ro, .slice xA' xn' xc', .slice yA' yn' yc', .int .i64 cc.h.au, .int .i64 cc.h.ro, .slice cA' cn' cd', .slice dA' dn' dc', .int .i64 cc.di, .slice sA' sn' sc', .slice eA' en' ec']) := bel_setCells (by omega) _ _ _ hb0
  have HOB2 := ħ ((OwnX.lowSets (vs := [.int .i64 ki, .int .i64 fr, .int .i64 tt, .int .i64 di, .int .i64 b.au, .int .i64 b.n, .slice bA' bn' bc', .int .i64 hd.au, .int .i64 hd.ro, .slice xA' xn' xc', .slice yA' yn' yc', .int .i64 cc.h.au, .int .i64 cc.h.ro, .slice cA' cn' cd', .slice dA' dn' dc', .int .i64 cc.di, .slice sA' sn' sc', .slice eA' en' ec']) (o := 0) (g := w.heap.size + 1) HOB.out (by omega)).mono (B' := w.heap.size) (by omega))
  have HOX2 := ħ ((OwnI.lowSets (vs := [.int .i64 ki, .int .i64 fr, .int .i64 tt, .int .i64 di, .int .i64 b.au, .int .i64 b.n, .slice bA' bn' bc', .int .i64 hd.au, .int .i64 hd.ro, .slice xA' xn' xc', .slice yA' yn' yc', .int .i64 cc.h.au, .int .i64 cc.h.ro, .slice cA' cn' cd', .slice dA' dn' dc', .int .i64 cc.di, .slice sA' sn' sc', .slice eA' en' ec']) (o := 0) (g := w.heap.size + 1) HOX.out (by omega)).mono (B' := w.heap.size) (by omega))
  have HOY2 := ħ ((OwnI.lowSets (vs := [.int .i64 ki, .int .i64 fr, .int .i64 tt, .int .i64 di, .int .i64 b.au, .int .i64 b.n, .slice bA' bn' bc', .int .i64 hd.au, .int .i64 hd.ro, .slice xA' xn' xc', .slice yA' yn' yc', .int .i64 cc.h.au, .int .i64 cc.h.ro, .slice cA' cn' cd', .slice dA' dn' dc', .int .i64 cc.di, .slice sA' sn' sc', .slice eA' en' ec']) (o := 0) (g := w.heap.size + 1) HOY.out (by omega)).mono (B' := w.heap.size) (by omega))
  have HOC2 := ħ ((OwnI.lowSets (vs := [.int .i64 ki, .int .i64 fr, .int .i64 tt, .int .i64 di, .int .i64 b.au, .int .i64 b.n, .slice bA' bn' bc', .int .i64 hd.au, .int .i64 hd.ro, .slice xA' xn' xc', .slice yA' yn' yc', .int .i64 cc.h.au, .int .i64 cc.h.ro, .slice cA' cn' cd', .slice dA' dn' dc', .int .i64 cc.di, .slice sA' sn' sc', .slice eA' en' ec']) (o := 0) (g := w.heap.size + 1) HOC.out (by omega)).mono (B' := w.heap.size) (by omega))
  have HOD2 := ħ ((OwnI.lowSets (vs := [.int .i64 ki, .int .i64 fr, .int .i64 tt, .int .i64 di, .int .i64 b.au, .int .i64 b.n, .slice bA' bn' bc', .int .i64 hd.au, .int .i64 hd.ro, .slice xA' xn' xc', .slice yA' yn' yc', .int .i64 cc.h.au, .int .i64 cc.h.ro, .slice cA' cn' cd', .slice dA' dn' dc', .int .i64 cc.di, .slice sA' sn' sc', .slice eA' en' ec']) (o := 0) (g := w.heap.size + 1) HOD.out (by omega)).mono (B' := w.heap.size) (by omega))
  have HOS2 := ħ ((OwnI.lowSets (vs := [.int .i64 ki, .int .i64 fr, .int .i64 tt, .int .i64 di, .int .i64 b.au, .int .i64 b.n, .slice bA' bn' bc', .int .i64 hd.au, .int .i64 hd.ro, .slice xA' xn' xc', .slice yA' yn' yc', .int .i64 cc.h.au, .int .i64 cc.h.ro, .slice cA' cn' cd', .slice dA' dn' dc', .int .i64 cc.di, .slice sA' sn' sc', .slice eA' en' ec']) (o := 0) (g := w.heap.size + 1) HOS.out (by omega)).mono (B' := w.heap.size) (by omega))
  have HOE2 := ħ ((OwnI.lowSets (vs := [.int .i64 ki, .int .i64 fr, .int .i64 tt, .int .i64 di, .int .i64 b.au, .int .i64 b.n, .slice bA' bn' bc', .int .i64 hd.au, .int .i64 hd.ro, .slice xA' xn' xc', .slice yA' yn' yc', .int .i64 cc.h.au, .int .i64 cc.h.ro, .slice cA' cn' cd', .slice dA' dn' dc', .int .i64 cc.di, .slice sA' sn' sc', .slice eA' en' ec']) (o := 0) (g := w.heap.size + 1) HOE.out (by omega)).mono (B' := w.heap.size) (by omega))
  obtain ⟨U, hU⟩ : ∃ U, U = V.setCells (w.heap.size + 1) 0 [.int .i64 ki, .int .i64 fr, .int .i64 tt, .int .i64 di, .int .i64 b.au, .int .i64 b.n, .slice bA' bn' bc', .int .i64 hd.au, .int .i64 hd.ro, .slice xA' xn' xc', .slice yA' yn' yc', .int .i64 cc.h.au, .int .i64 cc.h.ro, .slice cA' cn' cd', .slice dA' dn' dc', .int .i64 cc.di, .slice sA' sn' sc', .slice eA' en' ec'] := ⟨_, rfl⟩
  rw [← hU] at HF hb2 HOB2 HOX2 HOY2 HOC2 HOD2 HOS2 HOE2 ⊢
  clear hU HX HM HR hb0 HOB HOX HOY HOC HOD HOS HOE
  rename_i K hK
  refine hK _ _ ?_
  clear hK K
  (try simp only [lz])
  have c0 := HF.out.box.2 0 _ rfl
  have c1 := HF.out.box.2 1 _ rfl
  have c2 := HF.out.box.2 2 _ rfl
  have c3 := HF.out.box.2 3 _ rfl
  have c4 := HF.out.box.2 4 _ rfl
  have c5 := HF.out.box.2 5 _ rfl
  have c6 := HF.out.box.2 6 _ rfl
  have c7 := HF.out.box.2 7 _ rfl
  have c8 := HF.out.box.2 8 _ rfl
  have c9 := HF.out.box.2 9 _ rfl
  have c10 := HF.out.box.2 10 _ rfl
  have c11 := HF.out.box.2 11 _ rfl
  have c12 := HF.out.box.2 12 _ rfl
  have c13 := HF.out.box.2 13 _ rfl
  have c14 := HF.out.box.2 14 _ rfl
  have c15 := HF.out.box.2 15 _ rfl
  have c16 := HF.out.box.2 16 _ rfl
  have c17 := HF.out.box.2 17 _ rfl
  go_wp2_with fail
  exact bodyPost_ret (v := .agg #[.int .i64 ki, .int .i64 fr, .int .i64 tt, .int .i64 di, .int .i64 b.au, .int .i64 b.n, .slice bA' bn' bc', .int .i64 hd.au, .int .i64 hd.ro, .slice xA' xn' xc', .slice yA' yn' yc', .int .i64 cc.h.au, .int .i64 cc.h.ro, .slice cA' cn' cd', .slice dA' dn' dc', .int .i64 cc.di, .slice sA' sn' sc', .slice eA' en' ec']) (by simp [results, Tryz.results50, go_sem, c0, c1, c2, c3, c4, c5, c6, c7, c8, c9, c10, c11, c12, c13, c14, c15, c16, c17]) rfl ⟨⟨⟨bA', bn', bc'⟩, ⟨⟨xA', xn', xc'⟩, ⟨yA', yn', yc'⟩⟩, ⟨⟨⟨cA', cn', cd'⟩, ⟨dA', dn', dc'⟩⟩, ⟨sA', sn', sc'⟩⟩, ⟨eA', en', ec'⟩⟩, rfl, ⟨HOB2.out, HOX2.out, HOY2.out, HOC2.out, HOD2.out, HOS2.out, HOE2.out⟩, hb2⟩

end Go.Proofs.YtgfakefcmbpboaaGreat
