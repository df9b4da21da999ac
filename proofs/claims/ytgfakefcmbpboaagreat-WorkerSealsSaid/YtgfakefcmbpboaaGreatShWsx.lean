/- The law WorkerSeals. -/
import Derived.Test.YtgfakefcmbpboaaGreatShWsy
import Derived.Test.YtgfakefcmbpboaaGreatShWnr
import Derived.Test.YtgfakefcmbpboaaGreatShWsj
namespace Go.Proofs.YtgfakefcmbpboaaGreat
open Go.RowKit
set_option linter.unusedSimpArgs false
set_option linter.unusedVariables false

theorem RowM.keepB {S : TypeId → Prop} {w w' : World} {B : Nat} {s : SlP} (h : RowM w B s) (hk : KeepS S w w') (hS : ¬ S 49) : RowM w' B s := by
  rcases h with h | ⟨g, cur, e, hb, hg, h1, h2, h3, h4⟩
  · exact .inl h
  · obtain ⟨c', k1, k2, k3⟩ := hk g cur _ hg
    exact .inr ⟨g, c', e, hb, k1, h1, h2, by omega, fun j hj => (h4 j hj).keep hk hg hS⟩
theorem askL_milB {id d : Int} {b : BatchD} {nt : List Int} (hb : b.tx.length ≤ 1000000) : ∀ k, ∀ x ∈ askL id d b nt k, MilM x
  | 0, x, h => by simp [askL] at h
  | k + 1, x, h => by
    unfold askL at h
    rw [List.mem_append] at h
    rcases h with h | h
    · exact askL_milB hb k x h
    · split at h
      · simp at h; subst h; exact ⟨hb, by simp [askM], by simp [askM], by simp [askM], by simp [askM], by simp [askM], by simp [askM]⟩
      · cases h
theorem OwnT.lowsB {α β : Type} [Inhabited α] [Inhabited β] {T : DeepT α β} {w : World} {B g : Nat} {v : Value} {ps : List β} {l : List α} (h : OwnT T w B v ps l) (hp : g < B) (a0 a1 a2 a3 a4 a5 a6 a7 a8 : Value) : OwnT T (((((((((w.setCell ⟨g, 0, none⟩ a0).setCell ⟨g, 1, none⟩ a1).setCell ⟨g, 2, none⟩ a2).setCell ⟨g, 3, none⟩ a3).setCell ⟨g, 4, none⟩ a4).setCell ⟨g, 5, none⟩ a5).setCell ⟨g, 6, none⟩ a6).setCell ⟨g, 7, none⟩ a7).setCell ⟨g, 8, none⟩ a8) B v ps l := ((((((((h.low hp).low hp).low hp).low hp).low hp).low hp).low hp).low hp).low hp
theorem nxD_len (D : WorkD) : (nxD D).tx.length ≤ 8 := by show (D.op.take 8).length ≤ 8; rw [List.length_take]; omega
/-- How large a worker is behind its seal. -/
structure SmallD (D : WorkD) : Prop where
  op : D.op.length ≤ 20000
  wa : D.wa.length ≤ 20000
  he : D.he.length ≤ 20000
  re : D.re.length ≤ 20000
  ak : ∀ x ∈ D.wa, x.ak.length ≤ 20000
  hx : ∀ x ∈ D.he, x.b.tx.length ≤ 20000
theorem SmallD.seal {D : WorkD} (h : SmallD D) (d : Int) : (sealD D d).op.length ≤ 1000000 ∧ (sealD D d).wa.length ≤ 1000000 ∧ (sealD D d).he.length ≤ 1000000 ∧ (sealD D d).re.length ≤ 1000000 ∧ (∀ x ∈ (sealD D d).wa, x.ak.length ≤ 1000000) ∧ (∀ x ∈ (sealD D d).he, x.b.tx.length ≤ 1000000) := by
  have h1 := h.op
  have h2 := h.wa
  have h3 := h.he
  have h4 := h.re
  have hsl := sealW_len D d
  refine ⟨?_, ?_, ?_, ?_, fun x hx => ?_, fun x hx => ?_⟩
  · show (D.op.drop 8).length ≤ _; rw [List.length_drop]; omega
  · show (keptW D.nodes (sealW D d)).length ≤ _
    have : (keptW D.nodes (sealW D d)).length ≤ (sealW D d).length := List.length_filter_le _ _
    omega
  · show (insAt D.he (kposH D.he d) _).length ≤ _
    rw [insAt_len (show kposH D.he d ≤ D.he.length from cnt_le _ _)]; omega
  · show (keptR D.nodes D.re (sealW D d)).length ≤ _
    have := keptR_len D.nodes (sealW D d) D.re
    omega
  · have hx : x ∈ keptW D.nodes (sealW D d) := hx
    rcases sealW_mem (List.mem_filter.1 hx).1 with rfl | hx
    · simp
    · have := h.ak x hx; omega
  · rcases insAt_mem (show x ∈ insAt D.he (kposH D.he d) ⟨d, nxD D⟩ from hx) with rfl | hx
    · have := nxD_len D; show (nxD D).tx.length ≤ _; omega
    · have := h.hx x hx; omega
theorem SmallD.sealBig {D : WorkD} (h : SmallD D) (d : Int) : BigD (sealD D d) := by
  obtain ⟨h1, h2, h3, h4, h5, h6⟩ := h.seal d
  exact ⟨by omega, ⟨by omega, fun x hx => by have := h5 x hx; omega⟩, ⟨by omega, fun x hx => by have := h6 x hx; omega⟩, by omega⟩
theorem SmallD.big {D : WorkD} (h : SmallD D) : BigD D := ⟨by have := h.op; omega, ⟨by have := h.wa; omega, fun x hx => by have := h.ak x hx; omega⟩, ⟨by have := h.he; omega, fun x hx => by have := h.hx x hx; omega⟩, by have := h.re; omega⟩
set_option maxRecDepth 100000 in
set_option maxHeartbeats 8000000 in
theorem step_do3 (P : WorkP) (D : WorkD) (MP : MsgP) (SP : SlP) (a : JobD) (w : World) (h : WorkR w P D) (hl : SmallD D) (hdo : wiI a.doo 11 = 3) :
    Calls Tryz.prog 21 #[P.val D, J26 MP SP a] w fun e w' => ∃ P' D', e = .returned (.tuple #[P'.val D', .bool true]) ∧ WorkR w' P' D' ∧ Below w.heap.size w w' := by
  have H := Lib.hid h
  have HS := Lib.hid hl.big
  have HBG := Lib.hid (hl.sealBig a.d)
  have HSM := Lib.hid (hl.seal a.d)
  have HRE : Hid (D.re.length + D.wa.length ≤ 700000000) := Lib.hid (by have := hl.re; have := hl.wa; omega)
  have HDO := Lib.hid hdo
  clear h hl hdo
  show Calls Tryz.prog 21 #[.agg #[.int .i64 D.id, .int .i64 D.nodes, .int .i64 D.next, .slice P.op.A P.op.n P.op.c, .int .i64 D.age, .int .i64 D.clock, .slice P.wa.A P.wa.n P.wa.c, .slice P.he.A P.he.n P.he.c, .slice P.re.A P.re.n P.re.c], .agg #[.int .i64 a.doo, .int .i64 a.d, .int .i64 a.t.se, .int .i64 a.t.sq, .string a.t.k, .string a.t.v, .int .i64 a.m.ki, .int .i64 a.m.fr, .int .i64 a.m.tt, .int .i64 a.m.di, .int .i64 a.m.b.au, .int .i64 a.m.b.n, .slice MP.b.A MP.b.n MP.b.c, .int .i64 a.m.h.au, .int .i64 a.m.h.ro, .slice MP.h.b.A MP.h.b.n MP.h.b.c, .slice MP.h.p.A MP.h.p.n MP.h.p.c, .int .i64 a.m.c.h.au, .int .i64 a.m.c.h.ro, .slice MP.c.h.b.A MP.c.h.b.n MP.c.h.b.c, .slice MP.c.h.p.A MP.c.h.p.n MP.c.h.p.c, .int .i64 a.m.c.di, .slice MP.c.s.A MP.c.s.n MP.c.s.c, .slice MP.ds.A MP.ds.n MP.ds.c, .bool a.fit, .slice SP.A SP.n SP.c]] w _
  go_enter Tryz.func21, Tryz.ntmps21
  obtain ⟨z, hz⟩ : ∃ z, mayW D = z := ⟨_, rfl⟩
  have HZ := Lib.hid hz
  clear hz
  go_wp2_with fail
  have hX1 : Blk (((w.alloc (.cells #[.int .i64 D.id, .int .i64 D.nodes, .int .i64 D.next, .slice P.op.A P.op.n P.op.c, .int .i64 D.age, .int .i64 D.clock, .slice P.wa.A P.wa.n P.wa.c, .slice P.he.A P.he.n P.he.c, .slice P.re.A P.re.n P.re.c] 27)).alloc (.cells #[.int .i64 a.doo, .int .i64 a.d, .int .i64 a.t.se, .int .i64 a.t.sq, .string a.t.k, .string a.t.v, .int .i64 a.m.ki, .int .i64 a.m.fr, .int .i64 a.m.tt, .int .i64 a.m.di, .int .i64 a.m.b.au, .int .i64 a.m.b.n, .slice MP.b.A MP.b.n MP.b.c, .int .i64 a.m.h.au, .int .i64 a.m.h.ro, .slice MP.h.b.A MP.h.b.n MP.h.b.c, .slice MP.h.p.A MP.h.p.n MP.h.p.c, .int .i64 a.m.c.h.au, .int .i64 a.m.c.h.ro, .slice MP.c.h.b.A MP.c.h.b.n MP.c.h.b.c, .slice MP.c.h.p.A MP.c.h.p.n MP.c.h.p.c, .int .i64 a.m.c.di, .slice MP.c.s.A MP.c.s.n MP.c.s.c, .slice MP.ds.A MP.ds.n MP.ds.c, .bool a.fit, .slice SP.A SP.n SP.c] 51)).alloc (.cells #[.int .i64 0, .int .i64 0, .int .i64 0, .slice none 0 0, .int .i64 0, .int .i64 0, .slice none 0 0, .slice none 0 0, .slice none 0 0] 27)) w.heap.size 27 [.int .i64 D.id, .int .i64 D.nodes, .int .i64 D.next, .slice P.op.A P.op.n P.op.c, .int .i64 D.age, .int .i64 D.clock, .slice P.wa.A P.wa.n P.wa.c, .slice P.he.A P.he.n P.he.c, .slice P.re.A P.re.n P.re.c] := (Blk.new w 27 [.int .i64 D.id, .int .i64 D.nodes, .int .i64 D.next, .slice P.op.A P.op.n P.op.c, .int .i64 D.age, .int .i64 D.clock, .slice P.wa.A P.wa.n P.wa.c, .slice P.he.A P.he.n P.he.c, .slice P.re.A P.re.n P.re.c]).up (by (repeat (first | (with_reducible exact Below.refl _ _) | (with_reducible assumption) | (with_reducible apply bel_alloc) | (with_reducible apply bel_drew) | (with_reducible apply bel_drewN) | (with_reducible refine bel_trans ?_ (by with_reducible assumption)) | (with_reducible refine bel_trans ?_ (HF.out _)) | (with_reducible refine bel_set ?_ (by simp) _) | (with_reducible refine bel_set ?_ (by simp; omega) _) | (with_reducible refine bel_set ?_ (by omega) _))))
  have hX2 : Blk (((w.alloc (.cells #[.int .i64 D.id, .int .i64 D.nodes, .int .i64 D.next, .slice P.op.A P.op.n P.op.c, .int .i64 D.age, .int .i64 D.clock, .slice P.wa.A P.wa.n P.wa.c, .slice P.he.A P.he.n P.he.c, .slice P.re.A P.re.n P.re.c] 27)).alloc (.cells #[.int .i64 a.doo, .int .i64 a.d, .int .i64 a.t.se, .int .i64 a.t.sq, .string a.t.k, .string a.t.v, .int .i64 a.m.ki, .int .i64 a.m.fr, .int .i64 a.m.tt, .int .i64 a.m.di, .int .i64 a.m.b.au, .int .i64 a.m.b.n, .slice MP.b.A MP.b.n MP.b.c, .int .i64 a.m.h.au, .int .i64 a.m.h.ro, .slice MP.h.b.A MP.h.b.n MP.h.b.c, .slice MP.h.p.A MP.h.p.n MP.h.p.c, .int .i64 a.m.c.h.au, .int .i64 a.m.c.h.ro, .slice MP.c.h.b.A MP.c.h.b.n MP.c.h.b.c, .slice MP.c.h.p.A MP.c.h.p.n MP.c.h.p.c, .int .i64 a.m.c.di, .slice MP.c.s.A MP.c.s.n MP.c.s.c, .slice MP.ds.A MP.ds.n MP.ds.c, .bool a.fit, .slice SP.A SP.n SP.c] 51)).alloc (.cells #[.int .i64 0, .int .i64 0, .int .i64 0, .slice none 0 0, .int .i64 0, .int .i64 0, .slice none 0 0, .slice none 0 0, .slice none 0 0] 27)) (w.heap.size + 1) 51 [.int .i64 a.doo, .int .i64 a.d, .int .i64 a.t.se, .int .i64 a.t.sq, .string a.t.k, .string a.t.v, .int .i64 a.m.ki, .int .i64 a.m.fr, .int .i64 a.m.tt, .int .i64 a.m.di, .int .i64 a.m.b.au, .int .i64 a.m.b.n, .slice MP.b.A MP.b.n MP.b.c, .int .i64 a.m.h.au, .int .i64 a.m.h.ro, .slice MP.h.b.A MP.h.b.n MP.h.b.c, .slice MP.h.p.A MP.h.p.n MP.h.p.c, .int .i64 a.m.c.h.au, .int .i64 a.m.c.h.ro, .slice MP.c.h.b.A MP.c.h.b.n MP.c.h.b.c, .slice MP.c.h.p.A MP.c.h.p.n MP.c.h.p.c, .int .i64 a.m.c.di, .slice MP.c.s.A MP.c.s.n MP.c.s.c, .slice MP.ds.A MP.ds.n MP.ds.c, .bool a.fit, .slice SP.A SP.n SP.c] := by
    have := (Blk.new (w.alloc (.cells #[.int .i64 D.id, .int .i64 D.nodes, .int .i64 D.next, .slice P.op.A P.op.n P.op.c, .int .i64 D.age, .int .i64 D.clock, .slice P.wa.A P.wa.n P.wa.c, .slice P.he.A P.he.n P.he.c, .slice P.re.A P.re.n P.re.c] 27)) 51 [.int .i64 a.doo, .int .i64 a.d, .int .i64 a.t.se, .int .i64 a.t.sq, .string a.t.k, .string a.t.v, .int .i64 a.m.ki, .int .i64 a.m.fr, .int .i64 a.m.tt, .int .i64 a.m.di, .int .i64 a.m.b.au, .int .i64 a.m.b.n, .slice MP.b.A MP.b.n MP.b.c, .int .i64 a.m.h.au, .int .i64 a.m.h.ro, .slice MP.h.b.A MP.h.b.n MP.h.b.c, .slice MP.h.p.A MP.h.p.n MP.h.p.c, .int .i64 a.m.c.h.au, .int .i64 a.m.c.h.ro, .slice MP.c.h.b.A MP.c.h.b.n MP.c.h.b.c, .slice MP.c.h.p.A MP.c.h.p.n MP.c.h.p.c, .int .i64 a.m.c.di, .slice MP.c.s.A MP.c.s.n MP.c.s.c, .slice MP.ds.A MP.ds.n MP.ds.c, .bool a.fit, .slice SP.A SP.n SP.c]).up (w' := (((w.alloc (.cells #[.int .i64 D.id, .int .i64 D.nodes, .int .i64 D.next, .slice P.op.A P.op.n P.op.c, .int .i64 D.age, .int .i64 D.clock, .slice P.wa.A P.wa.n P.wa.c, .slice P.he.A P.he.n P.he.c, .slice P.re.A P.re.n P.re.c] 27)).alloc (.cells #[.int .i64 a.doo, .int .i64 a.d, .int .i64 a.t.se, .int .i64 a.t.sq, .string a.t.k, .string a.t.v, .int .i64 a.m.ki, .int .i64 a.m.fr, .int .i64 a.m.tt, .int .i64 a.m.di, .int .i64 a.m.b.au, .int .i64 a.m.b.n, .slice MP.b.A MP.b.n MP.b.c, .int .i64 a.m.h.au, .int .i64 a.m.h.ro, .slice MP.h.b.A MP.h.b.n MP.h.b.c, .slice MP.h.p.A MP.h.p.n MP.h.p.c, .int .i64 a.m.c.h.au, .int .i64 a.m.c.h.ro, .slice MP.c.h.b.A MP.c.h.b.n MP.c.h.b.c, .slice MP.c.h.p.A MP.c.h.p.n MP.c.h.p.c, .int .i64 a.m.c.di, .slice MP.c.s.A MP.c.s.n MP.c.s.c, .slice MP.ds.A MP.ds.n MP.ds.c, .bool a.fit, .slice SP.A SP.n SP.c] 51)).alloc (.cells #[.int .i64 0, .int .i64 0, .int .i64 0, .slice none 0 0, .int .i64 0, .int .i64 0, .slice none 0 0, .slice none 0 0, .slice none 0 0] 27))) (by (repeat (first | (with_reducible exact Below.refl _ _) | (with_reducible assumption) | (with_reducible apply bel_alloc) | (with_reducible apply bel_drew) | (with_reducible apply bel_drewN) | (with_reducible refine bel_trans ?_ (by with_reducible assumption)) | (with_reducible refine bel_trans ?_ (HF.out _)) | (with_reducible refine bel_set ?_ (by simp) _) | (with_reducible refine bel_set ?_ (by simp; omega) _) | (with_reducible refine bel_set ?_ (by omega) _))))
    simpa using this
  have hX3 : Blk (((w.alloc (.cells #[.int .i64 D.id, .int .i64 D.nodes, .int .i64 D.next, .slice P.op.A P.op.n P.op.c, .int .i64 D.age, .int .i64 D.clock, .slice P.wa.A P.wa.n P.wa.c, .slice P.he.A P.he.n P.he.c, .slice P.re.A P.re.n P.re.c] 27)).alloc (.cells #[.int .i64 a.doo, .int .i64 a.d, .int .i64 a.t.se, .int .i64 a.t.sq, .string a.t.k, .string a.t.v, .int .i64 a.m.ki, .int .i64 a.m.fr, .int .i64 a.m.tt, .int .i64 a.m.di, .int .i64 a.m.b.au, .int .i64 a.m.b.n, .slice MP.b.A MP.b.n MP.b.c, .int .i64 a.m.h.au, .int .i64 a.m.h.ro, .slice MP.h.b.A MP.h.b.n MP.h.b.c, .slice MP.h.p.A MP.h.p.n MP.h.p.c, .int .i64 a.m.c.h.au, .int .i64 a.m.c.h.ro, .slice MP.c.h.b.A MP.c.h.b.n MP.c.h.b.c, .slice MP.c.h.p.A MP.c.h.p.n MP.c.h.p.c, .int .i64 a.m.c.di, .slice MP.c.s.A MP.c.s.n MP.c.s.c, .slice MP.ds.A MP.ds.n MP.ds.c, .bool a.fit, .slice SP.A SP.n SP.c] 51)).alloc (.cells #[.int .i64 0, .int .i64 0, .int .i64 0, .slice none 0 0, .int .i64 0, .int .i64 0, .slice none 0 0, .slice none 0 0, .slice none 0 0] 27)) (w.heap.size + 2) 27 [.int .i64 0, .int .i64 0, .int .i64 0, .slice none 0 0, .int .i64 0, .int .i64 0, .slice none 0 0, .slice none 0 0, .slice none 0 0] := by
    have := Blk.new ((w.alloc (.cells #[.int .i64 D.id, .int .i64 D.nodes, .int .i64 D.next, .slice P.op.A P.op.n P.op.c, .int .i64 D.age, .int .i64 D.clock, .slice P.wa.A P.wa.n P.wa.c, .slice P.he.A P.he.n P.he.c, .slice P.re.A P.re.n P.re.c] 27)).alloc (.cells #[.int .i64 a.doo, .int .i64 a.d, .int .i64 a.t.se, .int .i64 a.t.sq, .string a.t.k, .string a.t.v, .int .i64 a.m.ki, .int .i64 a.m.fr, .int .i64 a.m.tt, .int .i64 a.m.di, .int .i64 a.m.b.au, .int .i64 a.m.b.n, .slice MP.b.A MP.b.n MP.b.c, .int .i64 a.m.h.au, .int .i64 a.m.h.ro, .slice MP.h.b.A MP.h.b.n MP.h.b.c, .slice MP.h.p.A MP.h.p.n MP.h.p.c, .int .i64 a.m.c.h.au, .int .i64 a.m.c.h.ro, .slice MP.c.h.b.A MP.c.h.b.n MP.c.h.b.c, .slice MP.c.h.p.A MP.c.h.p.n MP.c.h.p.c, .int .i64 a.m.c.di, .slice MP.c.s.A MP.c.s.n MP.c.s.c, .slice MP.ds.A MP.ds.n MP.ds.c, .bool a.fit, .slice SP.A SP.n SP.c] 51)) 27 [.int .i64 0, .int .i64 0, .int .i64 0, .slice none 0 0, .int .i64 0, .int .i64 0, .slice none 0 0, .slice none 0 0, .slice none 0 0]
    simpa using this
  have hbX : Below w.heap.size w (((w.alloc (.cells #[.int .i64 D.id, .int .i64 D.nodes, .int .i64 D.next, .slice P.op.A P.op.n P.op.c, .int .i64 D.age, .int .i64 D.clock, .slice P.wa.A P.wa.n P.wa.c, .slice P.he.A P.he.n P.he.c, .slice P.re.A P.re.n P.re.c] 27)).alloc (.cells #[.int .i64 a.doo, .int .i64 a.d, .int .i64 a.t.se, .int .i64 a.t.sq, .string a.t.k, .string a.t.v, .int .i64 a.m.ki, .int .i64 a.m.fr, .int .i64 a.m.tt, .int .i64 a.m.di, .int .i64 a.m.b.au, .int .i64 a.m.b.n, .slice MP.b.A MP.b.n MP.b.c, .int .i64 a.m.h.au, .int .i64 a.m.h.ro, .slice MP.h.b.A MP.h.b.n MP.h.b.c, .slice MP.h.p.A MP.h.p.n MP.h.p.c, .int .i64 a.m.c.h.au, .int .i64 a.m.c.h.ro, .slice MP.c.h.b.A MP.c.h.b.n MP.c.h.b.c, .slice MP.c.h.p.A MP.c.h.p.n MP.c.h.p.c, .int .i64 a.m.c.di, .slice MP.c.s.A MP.c.s.n MP.c.s.c, .slice MP.ds.A MP.ds.n MP.ds.c, .bool a.fit, .slice SP.A SP.n SP.c] 51)).alloc (.cells #[.int .i64 0, .int .i64 0, .int .i64 0, .slice none 0 0, .int .i64 0, .int .i64 0, .slice none 0 0, .slice none 0 0, .slice none 0 0] 27)) := by (repeat (first | (with_reducible exact Below.refl _ _) | (with_reducible assumption) | (with_reducible apply bel_alloc) | (with_reducible apply bel_drew) | (with_reducible apply bel_drewN) | (with_reducible refine bel_trans ?_ (by with_reducible assumption)) | (with_reducible refine bel_trans ?_ (HF.out _)) | (with_reducible refine bel_set ?_ (by simp) _) | (with_reducible refine bel_set ?_ (by simp; omega) _) | (with_reducible refine bel_set ?_ (by omega) _)))
  generalize (((w.alloc (.cells #[.int .i64 D.id, .int .i64 D.nodes, .int .i64 D.next, .slice P.op.A P.op.n P.op.c, .int .i64 D.age, .int .i64 D.clock, .slice P.wa.A P.wa.n P.wa.c, .slice P.he.A P.he.n P.he.c, .slice P.re.A P.re.n P.re.c] 27)).alloc (.cells #[.int .i64 a.doo, .int .i64 a.d, .int .i64 a.t.se, .int .i64 a.t.sq, .string a.t.k, .string a.t.v, .int .i64 a.m.ki, .int .i64 a.m.fr, .int .i64 a.m.tt, .int .i64 a.m.di, .int .i64 a.m.b.au, .int .i64 a.m.b.n, .slice MP.b.A MP.b.n MP.b.c, .int .i64 a.m.h.au, .int .i64 a.m.h.ro, .slice MP.h.b.A MP.h.b.n MP.h.b.c, .slice MP.h.p.A MP.h.p.n MP.h.p.c, .int .i64 a.m.c.h.au, .int .i64 a.m.c.h.ro, .slice MP.c.h.b.A MP.c.h.b.n MP.c.h.b.c, .slice MP.c.h.p.A MP.c.h.p.n MP.c.h.p.c, .int .i64 a.m.c.di, .slice MP.c.s.A MP.c.s.n MP.c.s.c, .slice MP.ds.A MP.ds.n MP.ds.c, .bool a.fit, .slice SP.A SP.n SP.c] 51)).alloc (.cells #[.int .i64 0, .int .i64 0, .int .i64 0, .slice none 0 0, .int .i64 0, .int .i64 0, .slice none 0 0, .slice none 0 0, .slice none 0 0] 27)) = X at *
  have HX1 := Lib.hid hX1
  have HX2 := Lib.hid hX2
  have HX3 := Lib.hid hX3
  have HBX := Lib.hid hbX
  clear hX1 hX2 hX3
  refine (ref0_CopyWorker P D _ (H.out.up hbX) HS.out).mono ?_
  rintro e w1 ⟨Pi, he1, hOi, hb1⟩
  simp only [WorkP.val] at he1
  subst he1
  have hbI : Below w1.heap.size w1 (w1.alloc (.cells #[.int .i64 D.id, .int .i64 D.nodes, .int .i64 D.next, .slice Pi.op.A Pi.op.n Pi.op.c, .int .i64 D.age, .int .i64 D.clock, .slice Pi.wa.A Pi.wa.n Pi.wa.c, .slice Pi.he.A Pi.he.n Pi.he.c, .slice Pi.re.A Pi.re.n Pi.re.c] 27)) := by (repeat (first | (with_reducible exact Below.refl _ _) | (with_reducible assumption) | (with_reducible apply bel_alloc) | (with_reducible apply bel_drew) | (with_reducible apply bel_drewN) | (with_reducible refine bel_trans ?_ (by with_reducible assumption)) | (with_reducible refine bel_trans ?_ (HF.out _)) | (with_reducible refine bel_set ?_ (by simp) _) | (with_reducible refine bel_set ?_ (by simp; omega) _) | (with_reducible refine bel_set ?_ (by omega) _)))
  have hY1 := (HX1.out.up hb1)
  have HOi := Lib.hid (hOi.up hbI)
  have HI := Lib.hid (Blk.new w1 27 [.int .i64 D.id, .int .i64 D.nodes, .int .i64 D.next, .slice Pi.op.A Pi.op.n Pi.op.c, .int .i64 D.age, .int .i64 D.clock, .slice Pi.wa.A Pi.wa.n Pi.wa.c, .slice Pi.he.A Pi.he.n Pi.he.c, .slice Pi.re.A Pi.re.n Pi.re.c])
  have HY2 := Lib.hid ((HX2.out.up hb1).up hbI)
  have HY3 := Lib.hid ((HX3.out.up hb1).up hbI)
  have HY1 := Lib.hid (hY1.up hbI)
  have hbY := bel_trans (bel_trans hbX hb1) hbI
  have ly1 := hY1.lt
  have a_0 := (hY1.box).2 0 _ rfl; have a_1 := (hY1.box).2 1 _ rfl; have a_2 := (hY1.box).2 2 _ rfl; have a_3 := (hY1.box).2 3 _ rfl; have a_4 := (hY1.box).2 4 _ rfl; have a_5 := (hY1.box).2 5 _ rfl; have a_6 := (hY1.box).2 6 _ rfl; have a_7 := (hY1.box).2 7 _ rfl; have a_8 := (hY1.box).2 8 _ rfl
  have hzX : w.heap.size + 3 ≤ w1.heap.size := by have := (HX3.out.up hb1).lt; omega
  clear hY1 HX1 HX2 HX3 hOi hb1 hbI hbX HBX
  go_wp2_with fail
  clear a_0 a_1 a_2 a_3 a_4 a_5 a_6 a_7 a_8 ly1
  have hgiE : w1.heap.size < (w1.alloc (.cells #[.int .i64 D.id, .int .i64 D.nodes, .int .i64 D.next, .slice Pi.op.A Pi.op.n Pi.op.c, .int .i64 D.age, .int .i64 D.clock, .slice Pi.wa.A Pi.wa.n Pi.wa.c, .slice Pi.he.A Pi.he.n Pi.he.c, .slice Pi.re.A Pi.re.n Pi.re.c] 27)).heap.size := HI.out.lt
  obtain ⟨gi, hgi⟩ : ∃ g, g = w1.heap.size := ⟨_, rfl⟩
  obtain ⟨X1, hX1⟩ : ∃ X1, X1 = (w1.alloc (.cells #[.int .i64 D.id, .int .i64 D.nodes, .int .i64 D.next, .slice Pi.op.A Pi.op.n Pi.op.c, .int .i64 D.age, .int .i64 D.clock, .slice Pi.wa.A Pi.wa.n Pi.wa.c, .slice Pi.he.A Pi.he.n Pi.he.c, .slice Pi.re.A Pi.re.n Pi.re.c] 27)) := ⟨_, rfl⟩
  rw [← hX1, ← hgi] at HI
  rw [← hX1] at HOi HY1 HY2 HY3 hbY
  rw [← hX1, ← hgi]
  rw [← hX1, ← hgi] at hgiE
  rw [← hgi] at hzX
  clear hX1 hgi
  refine (ref13_May P D z _ (H.out.up hbY) HZ.out).mono ?_
  rintro e w2 ⟨rfl, hb2⟩
  have hA2 := HY2.out.up hb2
  have b_0 := hA2.box.2 0 _ rfl
  have lA2 := hA2.lt
  have lA1 : w.heap.size < w2.heap.size := by omega
  clear hA2
  go_upto_region 25 with (go_at_call 40; refine (law0_Within a.doo 11 3 _ (by decide) (by decide) HDO.out).mono ?_; rintro e w' ⟨rfl, rfl⟩)
  clear b_0 lA2 lA1
  have hbz : Below w2.heap.size w2 ((w2.alloc (.cells #[.int .i64 0, .int .i64 0, .int .i64 0, .slice none 0 0, .int .i64 0, .int .i64 0, .slice none 0 0, .slice none 0 0, .slice none 0 0, .slice none 0 0] 70)).alloc (.cells #[.int .i64 0, .int .i64 0, .int .i64 0, .slice none 0 0, .int .i64 0, .int .i64 0, .slice none 0 0, .slice none 0 0, .slice none 0 0] 27)) := by (repeat (first | (with_reducible exact Below.refl _ _) | (with_reducible assumption) | (with_reducible apply bel_alloc) | (with_reducible apply bel_drew) | (with_reducible apply bel_drewN) | (with_reducible refine bel_trans ?_ (by with_reducible assumption)) | (with_reducible refine bel_trans ?_ (HF.out _)) | (with_reducible refine bel_set ?_ (by simp) _) | (with_reducible refine bel_set ?_ (by simp; omega) _) | (with_reducible refine bel_set ?_ (by omega) _)))
  have hs0 : Blk ((w2.alloc (.cells #[.int .i64 0, .int .i64 0, .int .i64 0, .slice none 0 0, .int .i64 0, .int .i64 0, .slice none 0 0, .slice none 0 0, .slice none 0 0, .slice none 0 0] 70)).alloc (.cells #[.int .i64 0, .int .i64 0, .int .i64 0, .slice none 0 0, .int .i64 0, .int .i64 0, .slice none 0 0, .slice none 0 0, .slice none 0 0] 27)) w2.heap.size 70 [.int .i64 0, .int .i64 0, .int .i64 0, .slice none 0 0, .int .i64 0, .int .i64 0, .slice none 0 0, .slice none 0 0, .slice none 0 0, .slice none 0 0] := (Blk.new w2 70 [.int .i64 0, .int .i64 0, .int .i64 0, .slice none 0 0, .int .i64 0, .int .i64 0, .slice none 0 0, .slice none 0 0, .slice none 0 0, .slice none 0 0]).up (by (repeat (first | (with_reducible exact Below.refl _ _) | (with_reducible assumption) | (with_reducible apply bel_alloc) | (with_reducible apply bel_drew) | (with_reducible apply bel_drewN) | (with_reducible refine bel_trans ?_ (by with_reducible assumption)) | (with_reducible refine bel_trans ?_ (HF.out _)) | (with_reducible refine bel_set ?_ (by simp) _) | (with_reducible refine bel_set ?_ (by simp; omega) _) | (with_reducible refine bel_set ?_ (by omega) _))))
  have hx0 : Blk ((w2.alloc (.cells #[.int .i64 0, .int .i64 0, .int .i64 0, .slice none 0 0, .int .i64 0, .int .i64 0, .slice none 0 0, .slice none 0 0, .slice none 0 0, .slice none 0 0] 70)).alloc (.cells #[.int .i64 0, .int .i64 0, .int .i64 0, .slice none 0 0, .int .i64 0, .int .i64 0, .slice none 0 0, .slice none 0 0, .slice none 0 0] 27)) (w2.heap.size + 1) 27 [.int .i64 0, .int .i64 0, .int .i64 0, .slice none 0 0, .int .i64 0, .int .i64 0, .slice none 0 0, .slice none 0 0, .slice none 0 0] := by
    have := Blk.new (w2.alloc (.cells #[.int .i64 0, .int .i64 0, .int .i64 0, .slice none 0 0, .int .i64 0, .int .i64 0, .slice none 0 0, .slice none 0 0, .slice none 0 0, .slice none 0 0] 70)) 27 [.int .i64 0, .int .i64 0, .int .i64 0, .slice none 0 0, .int .i64 0, .int .i64 0, .slice none 0 0, .slice none 0 0, .slice none 0 0]
    simpa using this
  obtain ⟨gx, hgx⟩ : ∃ g, g = w2.heap.size + 1 := ⟨_, rfl⟩
  rw [← hgx] at hx0 ⊢
  obtain ⟨gs, hgs⟩ : ∃ g, g = w2.heap.size := ⟨_, rfl⟩
  rw [← hgs] at hs0 ⊢
  obtain ⟨Y, hY⟩ : ∃ Y, Y = ((w2.alloc (.cells #[.int .i64 0, .int .i64 0, .int .i64 0, .slice none 0 0, .int .i64 0, .int .i64 0, .slice none 0 0, .slice none 0 0, .slice none 0 0, .slice none 0 0] 70)).alloc (.cells #[.int .i64 0, .int .i64 0, .int .i64 0, .slice none 0 0, .int .i64 0, .int .i64 0, .slice none 0 0, .slice none 0 0, .slice none 0 0] 27)) := ⟨_, rfl⟩
  rw [← hY] at hbz hs0 hx0 ⊢
  have hgisz := (HI.out.up hb2).lt
  have hgis : gi < gs := by omega
  have hgsx : gs < gx := by omega
  have hgw : w.heap.size + 2 < gi := by omega
  have HU1 := Lib.hid ((HY1.out.up hb2).up hbz)
  have HU2 := Lib.hid ((HY2.out.up hb2).up hbz)
  have HU3 := Lib.hid ((HY3.out.up hb2).up hbz)
  have HUi := Lib.hid ((HI.out.up hb2).up hbz)
  have HUs := Lib.hid hs0
  have HUx := Lib.hid hx0
  have HOI := Lib.hid ((HOi.out.up hb2).up hbz)
  have hbU := bel_trans (bel_trans hbY hb2) hbz
  clear hY hgx hgs hs0 hx0 hbz hgisz hgiE hzX HY1 HY2 HY3 HI HOi hbY hb2
  cases z
  · skip
    go_upto_region 27 with fail
    have hvi := HUi.out
    have li := hvi.lt
    have i_0 := (hvi.box).2 0 _ rfl; have i_1 := (hvi.box).2 1 _ rfl; have i_2 := (hvi.box).2 2 _ rfl; have i_3 := (hvi.box).2 3 _ rfl; have i_4 := (hvi.box).2 4 _ rfl; have i_5 := (hvi.box).2 5 _ rfl; have i_6 := (hvi.box).2 6 _ rfl; have i_7 := (hvi.box).2 7 _ rfl; have i_8 := (hvi.box).2 8 _ rfl
    have hva := HU2.out
    have la := hva.lt
    have a_1 := hva.box.2 1 _ rfl
    clear hvi hva
    go_upto_region 53 with (go_at_call 47; refine (worker_Sealed_may Pi D a.d _ (HOI.out.work HS.out) HZ.out).mono ?_; rintro e wa ⟨he, hba⟩; simp only [zeroW] at he; subst he; have hXa := HUx.out.up hba; have fXa := hXa.frozen; have lXa := hXa.lt; have x_0 := (hXa.box).2 0 _ rfl; have x_1 := (hXa.box).2 1 _ rfl; have x_2 := (hXa.box).2 2 _ rfl; have x_3 := (hXa.box).2 3 _ rfl; have x_4 := (hXa.box).2 4 _ rfl; have x_5 := (hXa.box).2 5 _ rfl; have x_6 := (hXa.box).2 6 _ rfl; have x_7 := (hXa.box).2 7 _ rfl; have x_8 := (hXa.box).2 8 _ rfl; have HXa := Lib.hid hXa; clear hXa)
    have hli := HUi.out.lt
    rename_i K9 hK9
    obtain ⟨gq, hgq⟩ : ∃ g, g = wa.heap.size := ⟨_, rfl⟩
    obtain ⟨W, hW⟩ : ∃ W, W = ((((((((((wa.setCell ⟨gx, 0, none⟩ (.int .i64 0)).setCell ⟨gx, 1, none⟩ (.int .i64 0)).setCell ⟨gx, 2, none⟩ (.int .i64 0)).setCell ⟨gx, 3, none⟩ (.slice none 0 0)).setCell ⟨gx, 4, none⟩ (.int .i64 0)).setCell ⟨gx, 5, none⟩ (.int .i64 0)).setCell ⟨gx, 6, none⟩ (.slice none 0 0)).setCell ⟨gx, 7, none⟩ (.slice none 0 0)).setCell ⟨gx, 8, none⟩ (.slice none 0 0)).alloc (.cells #[.int .i64 0, .int .i64 0, .int .i64 0, .slice none 0 0, .int .i64 0, .int .i64 0, .slice none 0 0, .slice none 0 0, .slice none 0 0, .slice none 0 0] 70)) := ⟨_, rfl⟩
    have hal : Below (((((((((wa.setCell ⟨gx, 0, none⟩ (.int .i64 0)).setCell ⟨gx, 1, none⟩ (.int .i64 0)).setCell ⟨gx, 2, none⟩ (.int .i64 0)).setCell ⟨gx, 3, none⟩ (.slice none 0 0)).setCell ⟨gx, 4, none⟩ (.int .i64 0)).setCell ⟨gx, 5, none⟩ (.int .i64 0)).setCell ⟨gx, 6, none⟩ (.slice none 0 0)).setCell ⟨gx, 7, none⟩ (.slice none 0 0)).setCell ⟨gx, 8, none⟩ (.slice none 0 0)).heap.size (((((((((wa.setCell ⟨gx, 0, none⟩ (.int .i64 0)).setCell ⟨gx, 1, none⟩ (.int .i64 0)).setCell ⟨gx, 2, none⟩ (.int .i64 0)).setCell ⟨gx, 3, none⟩ (.slice none 0 0)).setCell ⟨gx, 4, none⟩ (.int .i64 0)).setCell ⟨gx, 5, none⟩ (.int .i64 0)).setCell ⟨gx, 6, none⟩ (.slice none 0 0)).setCell ⟨gx, 7, none⟩ (.slice none 0 0)).setCell ⟨gx, 8, none⟩ (.slice none 0 0)) W := by rw [hW]; exact bel_alloc (Below.refl _ _)
    have hqB : Blk W gq 70 [.int .i64 0, .int .i64 0, .int .i64 0, .slice none 0 0, .int .i64 0, .int .i64 0, .slice none 0 0, .slice none 0 0, .slice none 0 0, .slice none 0 0] := by
      rw [hW, hgq]
      have := Blk.new (((((((((wa.setCell ⟨gx, 0, none⟩ (.int .i64 0)).setCell ⟨gx, 1, none⟩ (.int .i64 0)).setCell ⟨gx, 2, none⟩ (.int .i64 0)).setCell ⟨gx, 3, none⟩ (.slice none 0 0)).setCell ⟨gx, 4, none⟩ (.int .i64 0)).setCell ⟨gx, 5, none⟩ (.int .i64 0)).setCell ⟨gx, 6, none⟩ (.slice none 0 0)).setCell ⟨gx, 7, none⟩ (.slice none 0 0)).setCell ⟨gx, 8, none⟩ (.slice none 0 0)) 70 [.int .i64 0, .int .i64 0, .int .i64 0, .slice none 0 0, .int .i64 0, .int .i64 0, .slice none 0 0, .slice none 0 0, .slice none 0 0, .slice none 0 0]
      simpa [World.setCell] using this
    rw [← hW, ← hgq]
    clear hW hgq
    have hsx := set9 HXa.out rfl (.int .i64 0) (.int .i64 0) (.int .i64 0) (.slice none 0 0) (.int .i64 0) (.int .i64 0) (.slice none 0 0) (.slice none 0 0) (.slice none 0 0)
    have htk : TKeep 27 Y W := (TKeep.of_below hba).trans ((TKeep.sets9 HXa.out (.int .i64 0) (.int .i64 0) (.int .i64 0) (.slice none 0 0) (.int .i64 0) (.int .i64 0) (.slice none 0 0) (.slice none 0 0) (.slice none 0 0)).trans (TKeep.of_below hal))
    have hblk : ∀ g t cs, Blk Y g t cs → g ≠ gx → Blk W g t cs := fun g t cs h hne => ((h.up hba).sets9 hne (.int .i64 0) (.int .i64 0) (.int .i64 0) (.slice none 0 0) (.int .i64 0) (.int .i64 0) (.slice none 0 0) (.slice none 0 0) (.slice none 0 0)).up hal
    have hbWw : Below w.heap.size w W := (belw_sets9 (bel_trans hbU hba) (by omega) (.int .i64 0) (.int .i64 0) (.int .i64 0) (.slice none 0 0) (.int .i64 0) (.int .i64 0) (.slice none 0 0) (.slice none 0 0) (.slice none 0 0)).trans (hal.mono (by have h1 := hbU.size; have h2 := hba.size; simp [World.setCell]; omega))
    have hBW : Y.heap.size ≤ W.heap.size := by have h2 := hba.size; have h3 := hal.size; simp [World.setCell] at h3; omega
    have l1 := HU1.out.lt
    have l3 := HU3.out.lt
    have hwB := hbU.size
    exact step_tail w W Y.heap.size w.heap.size (w.heap.size + 1 + 1) gi gq gx P Pi nilP nilP D zeroWD 1 none none 0 0 0 0 hK9 hbWw hwB hBW (by omega) l3 (by omega) (by omega) (by intro e; rw [e] at hqB; have h9 := hblk _ _ _ HU3.out (by omega); have h8 : W.heap[w.heap.size + 1 + 1]? = some (.cells #[.int .i64 0, .int .i64 0, .int .i64 0, .slice none 0 0, .int .i64 0, .int .i64 0, .slice none 0 0, .slice none 0 0, .slice none 0 0, .slice none 0 0] 70 (0, 0)) := hqB; have h7 : W.heap[w.heap.size + 1 + 1]? = some (.cells #[.int .i64 0, .int .i64 0, .int .i64 0, .slice none 0 0, .int .i64 0, .int .i64 0, .slice none 0 0, .slice none 0 0, .slice none 0 0] 27 (0, 0)) := h9; rw [h8] at h7; simp at h7)
      (fun Y' hY' => ⟨H.out.up (hbWw.trans (hY'.mono hwB)), (HOI.out.tk (tk_belB htk hY') twWork).work HS.out, (hblk _ _ _ HU1.out (by omega)).below hY' l1, (hblk _ _ _ HUi.out (by omega)).below hY' hli, (hblk _ _ _ HU3.out (by omega)).below hY' l3⟩)
      (fun Y' hY' => ⟨zeroW_R _, hqB.up hY'⟩) (fun h => absurd h (by decide))
      (fun Y' hY' a0 a1 a2 a3 a4 a5 a6 a7 a8 => by rw [if_neg (by decide)]; exact H.out.up (belw_sets9 (hbWw.trans (hY'.mono hwB)) (by omega) a0 a1 a2 a3 a4 a5 a6 a7 a8))
      (hsx.up hal) (zeroW_O _ _) zeroW_big (by decide) (by decide) (by decide) (by decide) (fun x hx => by simp [zeroWD] at hx) (fun x hx => by simp [zeroWD] at hx)
      (fun Y' hY' => ref0_EqMessages none 0 0 none 0 0 [] Y' (MsgsR.nil _) (MsgsR.nil _)) (fun Y' hY' hk => (law0_Messages0 Y').mono fun e w' h => ⟨h.1, h.2.mono (Nat.le_trans hBW hY'.size)⟩)
  · have hn16 : D.nodes ≤ 16 := (isS_bd (mayW_iff.1 HZ.out).1).2
    obtain ⟨se, hse⟩ : ∃ x, sealE D a.d = x := ⟨_, rfl⟩
    have HSE := Lib.hid hse
    clear hse
    by_cases hs0 : se = 0
    · have HOK := Lib.hid (sealE_zero (HSE.out.trans hs0))
      clear HSE hs0
      go_upto_region 26 with fail
      have lx1 := HU1.out.lt
      have w_0 := (HU1.out.box).2 0 _ rfl; have w_1 := (HU1.out.box).2 1 _ rfl; have w_2 := (HU1.out.box).2 2 _ rfl; have w_3 := (HU1.out.box).2 3 _ rfl; have w_4 := (HU1.out.box).2 4 _ rfl; have w_5 := (HU1.out.box).2 5 _ rfl; have w_6 := (HU1.out.box).2 6 _ rfl; have w_7 := (HU1.out.box).2 7 _ rfl; have w_8 := (HU1.out.box).2 8 _ rfl
      have hva := HU2.out
      have la := hva.lt
      have a_1 := hva.box.2 1 _ rfl
      clear hva
      go_upto_region 27 with (go_at_call 46; refine (ref13_Sealed_ok P D a.d _ (H.out.up hbU) HS.out HZ.out HOK.out.1 HOK.out.2.1 HOK.out.2.2 HRE.out).mono ?_; rintro e w6 ⟨gq, P5, uA, un, uc, us, rfl, hQ6, hO6, hM6, hgq0, hb6⟩; have HQ6 : Hid (Blk w6 gq 70 [.int .i64 (sealD D a.d).id, .int .i64 (sealD D a.d).nodes, .int .i64 (sealD D a.d).next, .slice P5.op.A P5.op.n P5.op.c, .int .i64 (sealD D a.d).age, .int .i64 (sealD D a.d).clock, .slice P5.wa.A P5.wa.n P5.wa.c, .slice P5.he.A P5.he.n P5.he.c, .slice P5.re.A P5.re.n P5.re.c, .slice uA un uc]) := Lib.hid hQ6; have HO5 : Hid (WorkQ w6 Y.heap.size P5 (sealD D a.d)) := Lib.hid hO6; have HM5 := Lib.hid hM6; clear hQ6 hO6 hM6)
      clear w_0 w_1 w_2 w_3 w_4 w_5 w_6 w_7 w_8 lx1 la a_1
      have HG1 := Lib.hid (HU1.out.up hb6)
      have HG2 := Lib.hid (HU2.out.up hb6)
      have HG3 := Lib.hid (HU3.out.up hb6)
      have HGi := Lib.hid (HUi.out.up hb6)
      have HGx := Lib.hid (HUx.out.up hb6)
      have HGO := Lib.hid (HOI.out.up hb6)
      have hgxY := HUx.out.lt
      have hg3Y := HU3.out.lt
      have hsz6 := hb6.size
      have hbB := bel_trans hbU hb6
      have hvi := HGi.out
      have li := hvi.lt
      have i_0 := (hvi.box).2 0 _ rfl; have i_1 := (hvi.box).2 1 _ rfl; have i_2 := (hvi.box).2 2 _ rfl; have i_3 := (hvi.box).2 3 _ rfl; have i_4 := (hvi.box).2 4 _ rfl; have i_5 := (hvi.box).2 5 _ rfl; have i_6 := (hvi.box).2 6 _ rfl; have i_7 := (hvi.box).2 7 _ rfl; have i_8 := (hvi.box).2 8 _ rfl
      have hva := HG2.out
      have la := hva.lt
      have a_1 := hva.box.2 1 _ rfl
      clear HU1 HU2 HU3 HUi HUs HUx HOI hbU hvi hva
      go_upto_region 53 with (go_at_call 47; refine (worker_Sealed_ok Pi D a.d _ (HGO.out.work HS.out) HS.out HZ.out HOK.out.1 HOK.out.2.1 HOK.out.2.2 HRE.out).mono ?_; rintro e wa ⟨P8, lA, ln, lc, he, hO8, ⟨ls, hM8⟩, hba⟩; simp only [WorkP.val] at he; subst he; have hXa := HGx.out.up hba; have fXa := hXa.frozen; have lXa := hXa.lt; have x_0 := (hXa.box).2 0 _ rfl; have x_1 := (hXa.box).2 1 _ rfl; have x_2 := (hXa.box).2 2 _ rfl; have x_3 := (hXa.box).2 3 _ rfl; have x_4 := (hXa.box).2 4 _ rfl; have x_5 := (hXa.box).2 5 _ rfl; have x_6 := (hXa.box).2 6 _ rfl; have x_7 := (hXa.box).2 7 _ rfl; have x_8 := (hXa.box).2 8 _ rfl; have HXa := Lib.hid hXa; have HO8 := Lib.hid hO8; have HM8 := Lib.hid hM8; clear hXa hO8 hM8)
      rename_i K9 hK9
      clear li i_0 i_1 i_2 i_3 i_4 i_5 i_6 i_7 i_8 x_0 x_1 x_2 x_3 x_4 x_5 x_6 x_7 x_8 fXa lXa la a_1
      have hsx := set9 HXa.out rfl (.int .i64 (sealD D a.d).id) (.int .i64 (sealD D a.d).nodes) (.int .i64 (sealD D a.d).next) (.slice P8.op.A P8.op.n P8.op.c) (.int .i64 (sealD D a.d).age) (.int .i64 (sealD D a.d).clock) (.slice P8.wa.A P8.wa.n P8.wa.c) (.slice P8.he.A P8.he.n P8.he.c) (.slice P8.re.A P8.re.n P8.re.c)
      have hO8w := HO8.out.tk (TKeep.sets9 HXa.out (.int .i64 (sealD D a.d).id) (.int .i64 (sealD D a.d).nodes) (.int .i64 (sealD D a.d).next) (.slice P8.op.A P8.op.n P8.op.c) (.int .i64 (sealD D a.d).age) (.int .i64 (sealD D a.d).clock) (.slice P8.wa.A P8.wa.n P8.wa.c) (.slice P8.he.A P8.he.n P8.he.c) (.slice P8.re.A P8.re.n P8.re.c)) twWork
      have hM8w : OwnT dMsg (((((((((wa.setCell ⟨gx, 0, none⟩ (.int .i64 (sealD D a.d).id)).setCell ⟨gx, 1, none⟩ (.int .i64 (sealD D a.d).nodes)).setCell ⟨gx, 2, none⟩ (.int .i64 (sealD D a.d).next)).setCell ⟨gx, 3, none⟩ (.slice P8.op.A P8.op.n P8.op.c)).setCell ⟨gx, 4, none⟩ (.int .i64 (sealD D a.d).age)).setCell ⟨gx, 5, none⟩ (.int .i64 (sealD D a.d).clock)).setCell ⟨gx, 6, none⟩ (.slice P8.wa.A P8.wa.n P8.wa.c)).setCell ⟨gx, 7, none⟩ (.slice P8.he.A P8.he.n P8.he.c)).setCell ⟨gx, 8, none⟩ (.slice P8.re.A P8.re.n P8.re.c)) w6.heap.size (.slice lA ln lc) ls (askL D.id a.d (nxD D) [] D.nodes.toNat) := HM8.out.lowsB (by omega) (.int .i64 (sealD D a.d).id) (.int .i64 (sealD D a.d).nodes) (.int .i64 (sealD D a.d).next) (.slice P8.op.A P8.op.n P8.op.c) (.int .i64 (sealD D a.d).age) (.int .i64 (sealD D a.d).clock) (.slice P8.wa.A P8.wa.n P8.wa.c) (.slice P8.he.A P8.he.n P8.he.c) (.slice P8.re.A P8.re.n P8.re.c)
      have hM5w : OwnT dMsg (((((((((wa.setCell ⟨gx, 0, none⟩ (.int .i64 (sealD D a.d).id)).setCell ⟨gx, 1, none⟩ (.int .i64 (sealD D a.d).nodes)).setCell ⟨gx, 2, none⟩ (.int .i64 (sealD D a.d).next)).setCell ⟨gx, 3, none⟩ (.slice P8.op.A P8.op.n P8.op.c)).setCell ⟨gx, 4, none⟩ (.int .i64 (sealD D a.d).age)).setCell ⟨gx, 5, none⟩ (.int .i64 (sealD D a.d).clock)).setCell ⟨gx, 6, none⟩ (.slice P8.wa.A P8.wa.n P8.wa.c)).setCell ⟨gx, 7, none⟩ (.slice P8.he.A P8.he.n P8.he.c)).setCell ⟨gx, 8, none⟩ (.slice P8.re.A P8.re.n P8.re.c)) Y.heap.size (.slice uA un uc) us (askL D.id a.d (nxD D) [] D.nodes.toNat) := (HM5.out.up hba).lowsB (by omega) (.int .i64 (sealD D a.d).id) (.int .i64 (sealD D a.d).nodes) (.int .i64 (sealD D a.d).next) (.slice P8.op.A P8.op.n P8.op.c) (.int .i64 (sealD D a.d).age) (.int .i64 (sealD D a.d).clock) (.slice P8.wa.A P8.wa.n P8.wa.c) (.slice P8.he.A P8.he.n P8.he.c) (.slice P8.re.A P8.re.n P8.re.c)
      have htk : TKeep 27 w6 (((((((((wa.setCell ⟨gx, 0, none⟩ (.int .i64 (sealD D a.d).id)).setCell ⟨gx, 1, none⟩ (.int .i64 (sealD D a.d).nodes)).setCell ⟨gx, 2, none⟩ (.int .i64 (sealD D a.d).next)).setCell ⟨gx, 3, none⟩ (.slice P8.op.A P8.op.n P8.op.c)).setCell ⟨gx, 4, none⟩ (.int .i64 (sealD D a.d).age)).setCell ⟨gx, 5, none⟩ (.int .i64 (sealD D a.d).clock)).setCell ⟨gx, 6, none⟩ (.slice P8.wa.A P8.wa.n P8.wa.c)).setCell ⟨gx, 7, none⟩ (.slice P8.he.A P8.he.n P8.he.c)).setCell ⟨gx, 8, none⟩ (.slice P8.re.A P8.re.n P8.re.c)) := (TKeep.of_below hba).trans (TKeep.sets9 HXa.out (.int .i64 (sealD D a.d).id) (.int .i64 (sealD D a.d).nodes) (.int .i64 (sealD D a.d).next) (.slice P8.op.A P8.op.n P8.op.c) (.int .i64 (sealD D a.d).age) (.int .i64 (sealD D a.d).clock) (.slice P8.wa.A P8.wa.n P8.wa.c) (.slice P8.he.A P8.he.n P8.he.c) (.slice P8.re.A P8.re.n P8.re.c))
      have hblk : ∀ g t cs, Blk w6 g t cs → g ≠ gx → Blk (((((((((wa.setCell ⟨gx, 0, none⟩ (.int .i64 (sealD D a.d).id)).setCell ⟨gx, 1, none⟩ (.int .i64 (sealD D a.d).nodes)).setCell ⟨gx, 2, none⟩ (.int .i64 (sealD D a.d).next)).setCell ⟨gx, 3, none⟩ (.slice P8.op.A P8.op.n P8.op.c)).setCell ⟨gx, 4, none⟩ (.int .i64 (sealD D a.d).age)).setCell ⟨gx, 5, none⟩ (.int .i64 (sealD D a.d).clock)).setCell ⟨gx, 6, none⟩ (.slice P8.wa.A P8.wa.n P8.wa.c)).setCell ⟨gx, 7, none⟩ (.slice P8.he.A P8.he.n P8.he.c)).setCell ⟨gx, 8, none⟩ (.slice P8.re.A P8.re.n P8.re.c)) g t cs := fun g t cs h hne => (h.up hba).sets9 hne (.int .i64 (sealD D a.d).id) (.int .i64 (sealD D a.d).nodes) (.int .i64 (sealD D a.d).next) (.slice P8.op.A P8.op.n P8.op.c) (.int .i64 (sealD D a.d).age) (.int .i64 (sealD D a.d).clock) (.slice P8.wa.A P8.wa.n P8.wa.c) (.slice P8.he.A P8.he.n P8.he.c) (.slice P8.re.A P8.re.n P8.re.c)
      have hbWw := belw_sets9 (g := gx) (bel_trans hbB hba) (by omega) (.int .i64 (sealD D a.d).id) (.int .i64 (sealD D a.d).nodes) (.int .i64 (sealD D a.d).next) (.slice P8.op.A P8.op.n P8.op.c) (.int .i64 (sealD D a.d).age) (.int .i64 (sealD D a.d).clock) (.slice P8.wa.A P8.wa.n P8.wa.c) (.slice P8.he.A P8.he.n P8.he.c) (.slice P8.re.A P8.re.n P8.re.c)
      have hBW : w6.heap.size ≤ (((((((((wa.setCell ⟨gx, 0, none⟩ (.int .i64 (sealD D a.d).id)).setCell ⟨gx, 1, none⟩ (.int .i64 (sealD D a.d).nodes)).setCell ⟨gx, 2, none⟩ (.int .i64 (sealD D a.d).next)).setCell ⟨gx, 3, none⟩ (.slice P8.op.A P8.op.n P8.op.c)).setCell ⟨gx, 4, none⟩ (.int .i64 (sealD D a.d).age)).setCell ⟨gx, 5, none⟩ (.int .i64 (sealD D a.d).clock)).setCell ⟨gx, 6, none⟩ (.slice P8.wa.A P8.wa.n P8.wa.c)).setCell ⟨gx, 7, none⟩ (.slice P8.he.A P8.he.n P8.he.c)).setCell ⟨gx, 8, none⟩ (.slice P8.re.A P8.re.n P8.re.c)).heap.size := by have h2 := hba.size; simp [World.setCell]; exact h2
      obtain ⟨W, hW⟩ : ∃ W, W = (((((((((wa.setCell ⟨gx, 0, none⟩ (.int .i64 (sealD D a.d).id)).setCell ⟨gx, 1, none⟩ (.int .i64 (sealD D a.d).nodes)).setCell ⟨gx, 2, none⟩ (.int .i64 (sealD D a.d).next)).setCell ⟨gx, 3, none⟩ (.slice P8.op.A P8.op.n P8.op.c)).setCell ⟨gx, 4, none⟩ (.int .i64 (sealD D a.d).age)).setCell ⟨gx, 5, none⟩ (.int .i64 (sealD D a.d).clock)).setCell ⟨gx, 6, none⟩ (.slice P8.wa.A P8.wa.n P8.wa.c)).setCell ⟨gx, 7, none⟩ (.slice P8.he.A P8.he.n P8.he.c)).setCell ⟨gx, 8, none⟩ (.slice P8.re.A P8.re.n P8.re.c)) := ⟨_, rfl⟩
      rw [← hW] at hsx hO8w hM8w hM5w htk hblk hbWw hBW ⊢
      clear hW
      have l1 := HG1.out.lt
      have l3 := HG3.out.lt
      have lq := HQ6.out.lt
      have hli := HGi.out.lt
      have hwB := hbB.size
      have hbg := HBG.out
      have hR8 := hO8w.work hbg
      have hmsL : BigMs (askL D.id a.d (nxD D) [] D.nodes.toNat) := ⟨by have := askL_len D.id a.d (nxD D) [] D.nodes.toNat; omega, fun x hx => askL_big (Nat.le_trans (nxD_len D) (by decide)) _ x hx⟩
      obtain ⟨A1, c1, e1, hr1, _⟩ := OwnMs.msgs ⟨ls, hM8w⟩ hmsL
      obtain ⟨A2, c2, e2, hr2, _⟩ := OwnMs.msgs ⟨us, hM5w⟩ hmsL
      injection e1 with ea1 eb1 ec1
      injection e2 with ea2 eb2 ec2
      rw [← ea1, ← eb1] at hr1
      rw [← ea2, ← eb2] at hr2
      have hrm : RowM W w6.heap.size ⟨lA, ln, lc⟩ := msgs_rowM (s := ⟨lA, ln, lc⟩) hM8w (fun x hx => askL_milB (Nat.le_trans (nxD_len D) (by decide)) _ x hx)
      have hln : ln ≤ 1000000 := by rw [eb1]; have := askL_len D.id a.d (nxD D) [] D.nodes.toNat; omega
      have HR1 := Lib.hid hr1
      have HR2 := Lib.hid hr2
      have HRM := Lib.hid hrm
      clear ea1 eb1 ec1 ea2 eb2 ec2 hr1 hr2 hrm
      exact step_tail w W w6.heap.size w.heap.size (w.heap.size + 1 + 1) gi gq gx P Pi P5 P8 D (sealD D a.d) 0 uA lA un uc ln lc hK9 hbWw hwB hBW (by omega) l3 (by omega) (by omega) (by omega)
        (fun Y' hY' => ⟨H.out.up (hbWw.trans (hY'.mono hwB)), (HGO.out.tk (tk_belB htk hY') twWork).work HS.out, (hblk _ _ _ HG1.out (by omega)).below hY' l1, (hblk _ _ _ HGi.out (by omega)).below hY' hli, (hblk _ _ _ HG3.out (by omega)).below hY' l3⟩)
        (fun Y' hY' => ⟨(HO5.out.tk (tk_belB htk (hY'.mono hBW)) (Nat.le_trans hBW hY'.size) twWork).work hbg, (hblk _ _ _ HQ6.out (by omega)).up hY'⟩) (fun _ Y' hY' => (hblk _ _ _ HQ6.out (by omega)).below hY' lq)
        (fun Y' hY' a0 a1 a2 a3 a4 a5 a6 a7 a8 => by rw [if_pos rfl]; exact ((HO5.out.tk (tk_belB htk hY') (Nat.le_trans hBW hY'.size) twWork).tk (TKeep.sets9 ((hblk _ _ _ HG3.out (by omega)).below hY' l3) a0 a1 a2 a3 a4 a5 a6 a7 a8) (by simp [World.setCell]) twWork).work hbg)
        hsx hO8w hbg (by have e1 := hR8.op.1; show P8.op.n ≤ 1000000; rw [← e1]; exact HSM.out.1) (by have e1 := hR8.wa.1; rw [← e1]; exact HSM.out.2.1) (by have e1 := hR8.he.1; rw [← e1]; exact HSM.out.2.2.1) (by have e1 := hR8.re.1; rw [← e1]; exact HSM.out.2.2.2.1) HSM.out.2.2.2.2.1 HSM.out.2.2.2.2.2
        (fun Y' hY' => ref0_EqMessages lA ln lc uA un uc (askL D.id a.d (nxD D) [] D.nodes.toNat) Y' (HR1.out.up hY') (HR2.out.up hY'))
        (fun Y' hY' hk => (law0_MessagesS ⟨lA, ln, lc⟩ w6.heap.size Y' (HRM.out.keepB hk (by unfold SWork; decide)) hln (Nat.le_trans hBW hY'.size)).mono fun e w' h => ⟨h.1, h.2.1⟩)
    · have HSE0 := Lib.hid hs0
      have HSEN : Hid (sealE D a.d ≠ 0) := Lib.hid (by rw [HSE.out]; exact hs0)
      clear hs0
      go_upto_region 26 with fail
      have lx1 := HU1.out.lt
      have w_0 := (HU1.out.box).2 0 _ rfl; have w_1 := (HU1.out.box).2 1 _ rfl; have w_2 := (HU1.out.box).2 2 _ rfl; have w_3 := (HU1.out.box).2 3 _ rfl; have w_4 := (HU1.out.box).2 4 _ rfl; have w_5 := (HU1.out.box).2 5 _ rfl; have w_6 := (HU1.out.box).2 6 _ rfl; have w_7 := (HU1.out.box).2 7 _ rfl; have w_8 := (HU1.out.box).2 8 _ rfl
      have hva := HU2.out
      have la := hva.lt
      have a_1 := hva.box.2 1 _ rfl
      clear hva
      go_upto_region 27 with (go_at_call 46; refine (ref13_Sealed_no P D a.d _ (H.out.up hbU) HS.out HZ.out HSEN.out).mono ?_; rintro e w6 ⟨gq, he6, hb6⟩; rw [HSE.out] at he6; subst he6)
      clear w_0 w_1 w_2 w_3 w_4 w_5 w_6 w_7 w_8 lx1 la a_1
      replace HU1 := Lib.hid (HU1.out.up hb6)
      replace HU2 := Lib.hid (HU2.out.up hb6)
      replace HU3 := Lib.hid (HU3.out.up hb6)
      replace HUi := Lib.hid (HUi.out.up hb6)
      have hgxY := HUx.out.lt
      have hsz6 := hb6.size
      replace HUx := Lib.hid (HUx.out.up hb6)
      replace HOI := Lib.hid (HOI.out.up hb6)
      replace hbU := bel_trans hbU hb6
      clear HUs hb6
      have hvi := HUi.out
      have li := hvi.lt
      have i_0 := (hvi.box).2 0 _ rfl; have i_1 := (hvi.box).2 1 _ rfl; have i_2 := (hvi.box).2 2 _ rfl; have i_3 := (hvi.box).2 3 _ rfl; have i_4 := (hvi.box).2 4 _ rfl; have i_5 := (hvi.box).2 5 _ rfl; have i_6 := (hvi.box).2 6 _ rfl; have i_7 := (hvi.box).2 7 _ rfl; have i_8 := (hvi.box).2 8 _ rfl
      have hva := HU2.out
      have la := hva.lt
      have a_1 := hva.box.2 1 _ rfl
      clear hvi hva
      have hse9 : (se != 0) = true := by simpa using HSE0.out
      go_upto_region 53 with (go_at_call 47; refine (worker_Sealed_no Pi D a.d _ (HOI.out.work HS.out) HS.out HZ.out HSEN.out).mono ?_; rintro e wa ⟨he, hba⟩; rw [HSE.out] at he; simp only [zeroW] at he; subst he; have hXa := HUx.out.up hba; have fXa := hXa.frozen; have lXa := hXa.lt; have x_0 := (hXa.box).2 0 _ rfl; have x_1 := (hXa.box).2 1 _ rfl; have x_2 := (hXa.box).2 2 _ rfl; have x_3 := (hXa.box).2 3 _ rfl; have x_4 := (hXa.box).2 4 _ rfl; have x_5 := (hXa.box).2 5 _ rfl; have x_6 := (hXa.box).2 6 _ rfl; have x_7 := (hXa.box).2 7 _ rfl; have x_8 := (hXa.box).2 8 _ rfl; have HXa := Lib.hid hXa; clear hXa)
      have hli := HUi.out.lt
      rename_i K9 hK9
      obtain ⟨gq, hgq⟩ : ∃ g, g = wa.heap.size := ⟨_, rfl⟩
      obtain ⟨W, hW⟩ : ∃ W, W = ((((((((((wa.setCell ⟨gx, 0, none⟩ (.int .i64 0)).setCell ⟨gx, 1, none⟩ (.int .i64 0)).setCell ⟨gx, 2, none⟩ (.int .i64 0)).setCell ⟨gx, 3, none⟩ (.slice none 0 0)).setCell ⟨gx, 4, none⟩ (.int .i64 0)).setCell ⟨gx, 5, none⟩ (.int .i64 0)).setCell ⟨gx, 6, none⟩ (.slice none 0 0)).setCell ⟨gx, 7, none⟩ (.slice none 0 0)).setCell ⟨gx, 8, none⟩ (.slice none 0 0)).alloc (.cells #[.int .i64 0, .int .i64 0, .int .i64 0, .slice none 0 0, .int .i64 0, .int .i64 0, .slice none 0 0, .slice none 0 0, .slice none 0 0, .slice none 0 0] 70)) := ⟨_, rfl⟩
      have hal : Below (((((((((wa.setCell ⟨gx, 0, none⟩ (.int .i64 0)).setCell ⟨gx, 1, none⟩ (.int .i64 0)).setCell ⟨gx, 2, none⟩ (.int .i64 0)).setCell ⟨gx, 3, none⟩ (.slice none 0 0)).setCell ⟨gx, 4, none⟩ (.int .i64 0)).setCell ⟨gx, 5, none⟩ (.int .i64 0)).setCell ⟨gx, 6, none⟩ (.slice none 0 0)).setCell ⟨gx, 7, none⟩ (.slice none 0 0)).setCell ⟨gx, 8, none⟩ (.slice none 0 0)).heap.size (((((((((wa.setCell ⟨gx, 0, none⟩ (.int .i64 0)).setCell ⟨gx, 1, none⟩ (.int .i64 0)).setCell ⟨gx, 2, none⟩ (.int .i64 0)).setCell ⟨gx, 3, none⟩ (.slice none 0 0)).setCell ⟨gx, 4, none⟩ (.int .i64 0)).setCell ⟨gx, 5, none⟩ (.int .i64 0)).setCell ⟨gx, 6, none⟩ (.slice none 0 0)).setCell ⟨gx, 7, none⟩ (.slice none 0 0)).setCell ⟨gx, 8, none⟩ (.slice none 0 0)) W := by rw [hW]; exact bel_alloc (Below.refl _ _)
      have hqB : Blk W gq 70 [.int .i64 0, .int .i64 0, .int .i64 0, .slice none 0 0, .int .i64 0, .int .i64 0, .slice none 0 0, .slice none 0 0, .slice none 0 0, .slice none 0 0] := by
        rw [hW, hgq]
        have := Blk.new (((((((((wa.setCell ⟨gx, 0, none⟩ (.int .i64 0)).setCell ⟨gx, 1, none⟩ (.int .i64 0)).setCell ⟨gx, 2, none⟩ (.int .i64 0)).setCell ⟨gx, 3, none⟩ (.slice none 0 0)).setCell ⟨gx, 4, none⟩ (.int .i64 0)).setCell ⟨gx, 5, none⟩ (.int .i64 0)).setCell ⟨gx, 6, none⟩ (.slice none 0 0)).setCell ⟨gx, 7, none⟩ (.slice none 0 0)).setCell ⟨gx, 8, none⟩ (.slice none 0 0)) 70 [.int .i64 0, .int .i64 0, .int .i64 0, .slice none 0 0, .int .i64 0, .int .i64 0, .slice none 0 0, .slice none 0 0, .slice none 0 0, .slice none 0 0]
        simpa [World.setCell] using this
      rw [← hW, ← hgq]
      clear hW hgq
      have hsx := set9 HXa.out rfl (.int .i64 0) (.int .i64 0) (.int .i64 0) (.slice none 0 0) (.int .i64 0) (.int .i64 0) (.slice none 0 0) (.slice none 0 0) (.slice none 0 0)
      have htk : TKeep 27 w6 W := (TKeep.of_below hba).trans ((TKeep.sets9 HXa.out (.int .i64 0) (.int .i64 0) (.int .i64 0) (.slice none 0 0) (.int .i64 0) (.int .i64 0) (.slice none 0 0) (.slice none 0 0) (.slice none 0 0)).trans (TKeep.of_below hal))
      have hblk : ∀ g t cs, Blk w6 g t cs → g ≠ gx → Blk W g t cs := fun g t cs h hne => ((h.up hba).sets9 hne (.int .i64 0) (.int .i64 0) (.int .i64 0) (.slice none 0 0) (.int .i64 0) (.int .i64 0) (.slice none 0 0) (.slice none 0 0) (.slice none 0 0)).up hal
      have hbWw : Below w.heap.size w W := (belw_sets9 (bel_trans hbU hba) (by omega) (.int .i64 0) (.int .i64 0) (.int .i64 0) (.slice none 0 0) (.int .i64 0) (.int .i64 0) (.slice none 0 0) (.slice none 0 0) (.slice none 0 0)).trans (hal.mono (by have h1 := hbU.size; have h2 := hba.size; simp [World.setCell]; omega))
      have hBW : w6.heap.size ≤ W.heap.size := by have h2 := hba.size; have h3 := hal.size; simp [World.setCell] at h3; omega
      have l1 := HU1.out.lt
      have l3 := HU3.out.lt
      have hwB := hbU.size
      exact step_tail w W w6.heap.size w.heap.size (w.heap.size + 1 + 1) gi gq gx P Pi nilP nilP D zeroWD se none none 0 0 0 0 hK9 hbWw hwB hBW (by omega) l3 (by omega) (by omega) (by intro e; rw [e] at hqB; have h9 := hblk _ _ _ HU3.out (by omega); have h8 : W.heap[w.heap.size + 1 + 1]? = some (.cells #[.int .i64 0, .int .i64 0, .int .i64 0, .slice none 0 0, .int .i64 0, .int .i64 0, .slice none 0 0, .slice none 0 0, .slice none 0 0, .slice none 0 0] 70 (0, 0)) := hqB; have h7 : W.heap[w.heap.size + 1 + 1]? = some (.cells #[.int .i64 0, .int .i64 0, .int .i64 0, .slice none 0 0, .int .i64 0, .int .i64 0, .slice none 0 0, .slice none 0 0, .slice none 0 0] 27 (0, 0)) := h9; rw [h8] at h7; simp at h7)
        (fun Y' hY' => ⟨H.out.up (hbWw.trans (hY'.mono hwB)), (HOI.out.tk (tk_belB htk hY') twWork).work HS.out, (hblk _ _ _ HU1.out (by omega)).below hY' l1, (hblk _ _ _ HUi.out (by omega)).below hY' hli, (hblk _ _ _ HU3.out (by omega)).below hY' l3⟩)
        (fun Y' hY' => ⟨zeroW_R _, hqB.up hY'⟩) (fun h => absurd h HSE0.out)
        (fun Y' hY' a0 a1 a2 a3 a4 a5 a6 a7 a8 => by rw [if_neg HSE0.out]; exact H.out.up (belw_sets9 (hbWw.trans (hY'.mono hwB)) (by omega) a0 a1 a2 a3 a4 a5 a6 a7 a8))
        (hsx.up hal) (zeroW_O _ _) zeroW_big (by decide) (by decide) (by decide) (by decide) (fun x hx => by simp [zeroWD] at hx) (fun x hx => by simp [zeroWD] at hx)
        (fun Y' hY' => ref0_EqMessages none 0 0 none 0 0 [] Y' (MsgsR.nil _) (MsgsR.nil _)) (fun Y' hY' hk => (law0_Messages0 Y').mono fun e w' h => ⟨h.1, h.2.mono (Nat.le_trans hBW hY'.size)⟩)
theorem light_small {w : World} {P : JScrP} {D : JScrD} (h : JScrR w P D) (hL : LightJ P D) : SmallD D.w :=
  ⟨by rw [h.wk.op.1]; have := hL.op; omega, by rw [h.wk.wa.1]; have := hL.wa; omega, by rw [h.wk.he.1]; have := hL.he; omega, by rw [h.wk.re.1]; have := hL.re; omega, fun x hx => by have := hL.ak x hx; omega, fun x hx => by have := hL.hx x hx; omega⟩
theorem step_do3_light {w : World} {P : JScrP} {D : JScrD} (h : JScrR w P D) (hL : LightJ P D) (MP : MsgP) (SP : SlP) (a : JobD) (X : World) (hx : WorkR X P.w D.w) (hdo : wiI a.doo 11 = 3) :
    Calls Tryz.prog 21 #[P.w.val D.w, J26 MP SP a] X fun e w' => (∃ P' D', e = .returned (.tuple #[WorkP.val P' D', .bool true])) ∧ Below X.heap.size X w' :=
  (step_do3 P.w D.w MP SP a X hx (light_small h hL) hdo).mono fun e w' ⟨P', D', h3, h4, h5⟩ => ⟨⟨P', D', h3⟩, h5⟩
set_option maxRecDepth 100000 in
set_option maxHeartbeats 2000000 in
theorem law_WorkerSeals (P : JScrP) (D : JScrD) (w : World) (h : JScrR w P D) :
    Calls Tryz.prog 5 #[P.val D] w fun e w' => e = .returned (.bool true) ∧ Below w.heap.size w w' := by
  have H := Lib.hid h
  clear h
  show Calls Tryz.prog 5 #[.agg #[.int .i64 D.w.id, .int .i64 D.w.nodes, .int .i64 D.w.next, .slice P.w.op.A P.w.op.n P.w.op.c, .int .i64 D.w.age, .int .i64 D.w.clock, .slice P.w.wa.A P.w.wa.n P.w.wa.c, .slice P.w.he.A P.w.he.n P.w.he.c, .slice P.w.re.A P.w.re.n P.w.re.c, .slice P.l.A P.l.n P.l.c]] w _
  go_enter Tryz.func5, Tryz.ntmps5
  go_wp2_with fail
  have hbX : Below w.heap.size w (w.alloc (.cells #[.int .i64 D.w.id, .int .i64 D.w.nodes, .int .i64 D.w.next, .slice P.w.op.A P.w.op.n P.w.op.c, .int .i64 D.w.age, .int .i64 D.w.clock, .slice P.w.wa.A P.w.wa.n P.w.wa.c, .slice P.w.he.A P.w.he.n P.w.he.c, .slice P.w.re.A P.w.re.n P.w.re.c, .slice P.l.A P.l.n P.l.c] 30)) := by (repeat (first | (with_reducible exact Below.refl _ _) | (with_reducible assumption) | (with_reducible apply bel_alloc) | (with_reducible apply bel_drew) | (with_reducible apply bel_drewN) | (with_reducible refine bel_trans ?_ (by with_reducible assumption)) | (with_reducible refine bel_trans ?_ (HF.out _)) | (with_reducible refine bel_set ?_ (by simp) _) | (with_reducible refine bel_set ?_ (by simp; omega) _) | (with_reducible refine bel_set ?_ (by omega) _)))
  refine (law13_only P D 3 _ (H.out.up hbX) (fun MP SP a X hX hL ham hM hI => step_do3_light H.out hL MP SP { a with doo := 3 } X ((H.out.wk.up hbX).up hX) (show wiI 3 11 = 3 by decide))).mono ?_
  rintro e w1 ⟨rfl, hb1⟩
  go_wp2_with fail
  go_ret
  exact ⟨rfl, bel_trans hbX hb1⟩
end Go.Proofs.YtgfakefcmbpboaaGreat
