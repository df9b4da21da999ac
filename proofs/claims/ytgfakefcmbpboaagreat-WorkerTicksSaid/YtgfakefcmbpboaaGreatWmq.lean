/- The law WorkerTicks. -/
import Derived.Test.YtgfakefcmbpboaaGreatWmp
import Derived.Test.YtgfakefcmbpboaaGreatWsn
import Derived.Test.YtgfakefcmbpboaaGreatWsj
namespace Go.Proofs.YtgfakefcmbpboaaGreat
open Go.RowKit
set_option linter.unusedSimpArgs false
set_option linter.unusedVariables false

def zeroWD : WorkD := ⟨0, 0, 0, [], 0, 0, [], [], []⟩
theorem zeroW_R (w : World) : WorkR w nilP zeroWD :=
  ⟨⟨rfl, by simp [flat, zeroWD, nilP], by show 0 ≤ _; omega, fun h => absurd h (by show ¬ 0 < 0; omega)⟩, ⟨rfl, by show 0 ≤ _; omega, fun h => absurd h (by show ¬ 0 < 0; omega)⟩, ⟨rfl, by show 0 ≤ _; omega, fun h => absurd h (by show ¬ 0 < 0; omega)⟩, ⟨rfl, by show 0 ≤ _; omega, fun h => absurd h (by show ¬ 0 < 0; omega)⟩, Nat.le_refl _, by show 0 ≤ _; omega, Nat.le_refl _⟩
theorem zeroW_O (w : World) (B : Nat) : WorkO w B nilP zeroWD := ⟨OwnX.nil _ _, OwnWs.nil _ _, OwnHs.nil _ _, OwnI.nil _ _⟩
theorem zeroW_big : BigD zeroWD := ⟨by decide, ⟨by decide, fun x h => by simp [zeroWD] at h⟩, ⟨by decide, fun x h => by simp [zeroWD] at h⟩, by decide⟩
theorem tk_belB {T : TypeId} {a b c : World} (h : TKeep T a b) (k : Below a.heap.size b c) : TKeep T a c := fun q cur t ht hq => (k.block q (Array.getElem?_eq_some_iff.1 hq).1).trans (h q cur t ht hq)
set_option maxRecDepth 100000 in
theorem law0_Messages0 (w : World) : Calls Tryz.prog 53 #[.slice none 0 0] w fun e w' => e = .returned (.tuple #[]) ∧ Below w.heap.size w w' := by
  go_enter Tryz.func53, Tryz.ntmps53
  go_wp2_with fail
  go_loop [2] (fun i => i = .int .i64 0) (fun _ => 0)
  case atStart => rfl
  case round =>
    obtain rfl := hrel
    go_wp2_with (at_builtin; refine wpList_appM rfl (.tmp 38) (.tmp 40) rfl rfl w.heap.size _ [] [] rfl (OwnT.nil _ _) w.heap.size ⟨0, 0, 0, 0, ⟨0, 0, []⟩, ⟨0, 0, [], []⟩, ⟨⟨0, 0, [], []⟩, 0, []⟩, []⟩ ⟨⟨none, 0, 0⟩, ⟨⟨none, 0, 0⟩, ⟨none, 0, 0⟩⟩, ⟨⟨⟨none, 0, 0⟩, ⟨none, 0, 0⟩⟩, ⟨none, 0, 0⟩⟩, ⟨none, 0, 0⟩⟩ rfl (BoxR.new w (msgCells ⟨⟨none, 0, 0⟩, ⟨⟨none, 0, 0⟩, ⟨none, 0, 0⟩⟩, ⟨⟨⟨none, 0, 0⟩, ⟨none, 0, 0⟩⟩, ⟨none, 0, 0⟩⟩, ⟨none, 0, 0⟩⟩ ⟨0, 0, 0, 0, ⟨0, 0, []⟩, ⟨0, 0, [], []⟩, ⟨⟨0, 0, [], []⟩, 0, []⟩, []⟩) 49) ⟨OwnX.nil _ _, OwnI.nil _ _, OwnI.nil _ _, OwnI.nil _ _, OwnI.nil _ _, OwnI.nil _ _, OwnI.nil _ _⟩ (by simp) (le_alloc (Nat.le_refl _)) ?_; intro v1 w1 hown1 hg1 hbel1)
    go_end0
    exact ⟨rfl, Below.trans ((Below.refl _ _).alloc (Nat.le_refl _) _) hbel1⟩
theorem RowM.keep {S : TypeId → Prop} {w w' : World} {B : Nat} {s : SlP} (h : RowM w B s) (hk : KeepS S w w') (hS : ¬ S 49) : RowM w' B s := by
  rcases h with h | ⟨g, cur, e, hb, hg, h1, h2, h3, h4⟩
  · exact .inl h
  · obtain ⟨c', k1, k2, k3⟩ := hk g cur _ hg
    exact .inr ⟨g, c', e, hb, k1, h1, h2, by omega, fun j hj => (h4 j hj).keep hk hg hS⟩
theorem askL_mil {id d : Int} {b : BatchD} {nt : List Int} (hb : b.tx.length ≤ 1000000) : ∀ k, ∀ x ∈ askL id d b nt k, MilM x
  | 0, x, h => by simp [askL] at h
  | k + 1, x, h => by
    unfold askL at h
    rw [List.mem_append] at h
    rcases h with h | h
    · exact askL_mil hb k x h
    · split at h
      · simp at h; subst h; exact ⟨hb, by simp [askM], by simp [askM], by simp [askM], by simp [askM], by simp [askM], by simp [askM]⟩
      · cases h
theorem waitsL_mil (D : WorkD) (hs : ∀ x ∈ D.he, x.b.tx.length ≤ 1000000) : ∀ k, ∀ x ∈ waitsL D k, MilM x ∧ BigM x
  | 0, x, h => by simp [waitsL] at h
  | k + 1, x, h => by
    unfold waitsL at h
    rw [List.mem_append] at h
    rcases h with h | h
    · exact waitsL_mil D hs k x h
    · split at h
      · rename_i hy
        have hb := hs _ (getD_mem (khasH_lt rfl hy).1)
        exact ⟨askL_mil hb _ x h, askL_big (Nat.le_trans hb (by decide)) _ x h⟩
      · cases h
theorem tickL_mil (D : WorkD) (hs : ∀ x ∈ D.he, x.b.tx.length ≤ 1000000) (x : MsgD) (h : x ∈ tickL D) : MilM x := by
  unfold tickL at h
  split at h
  · exact (waitsL_mil D hs _ x h).1
  · cases h
theorem tickL_len (D : WorkD) (hn : D.nodes ≤ 16) : (tickL D).length ≤ D.wa.length * 16 := by
  unfold tickL
  split
  · exact waitsL_len D _ hn
  · simp
theorem tickL_bigs (D : WorkD) (hs : ∀ x ∈ D.he, x.b.tx.length ≤ 1000000) (hw : D.wa.length ≤ 1000000) (hn : D.nodes ≤ 16) : BigMs (tickL D) :=
  ⟨by have := tickL_len D hn; omega, fun x h => by
    unfold tickL at h
    split at h
    · exact (waitsL_mil D hs _ x h).2
    · cases h⟩
set_option maxRecDepth 100000 in
set_option maxHeartbeats 8000000 in
theorem step_do8 (P : WorkP) (D : WorkD) (MP : MsgP) (SP : SlP) (a : JobD) (w : World) (h : WorkR w P D) (hs : BigD D) (hdo : wiI a.doo 11 = 8) (hn : D.wa.length ≤ 50000)
    (hsm : D.op.length ≤ 1000000 ∧ D.wa.length ≤ 1000000 ∧ D.he.length ≤ 1000000 ∧ D.re.length ≤ 1000000 ∧ (∀ x ∈ D.wa, x.ak.length ≤ 1000000) ∧ (∀ x ∈ D.he, x.b.tx.length ≤ 1000000)) :
    Calls Tryz.prog 21 #[P.val D, J26 MP SP a] w fun e w' => ∃ P' D', e = .returned (.tuple #[P'.val D', .bool true]) ∧ WorkR w' P' D' ∧ Below w.heap.size w w' := by
  have H := Lib.hid h
  have HS := Lib.hid hs
  have HDO := Lib.hid hdo
  have HN := Lib.hid hn
  have HSM := Lib.hid hsm
  have HMH : Hid ((∀ x ∈ D.he, x.b.tx.length ≤ 1000000) ∧ ∀ x ∈ D.he, x.b.tx.length ≤ 1000000) := Lib.hid ⟨hsm.2.2.2.2.2, hsm.2.2.2.2.2⟩
  clear h hs hdo hn hsm
  show Calls Tryz.prog 21 #[.agg #[.int .i64 D.id, .int .i64 D.nodes, .int .i64 D.next, .slice P.op.A P.op.n P.op.c, .int .i64 D.age, .int .i64 D.clock, .slice P.wa.A P.wa.n P.wa.c, .slice P.he.A P.he.n P.he.c, .slice P.re.A P.re.n P.re.c], .agg #[.int .i64 a.doo, .int .i64 a.d, .int .i64 a.t.se, .int .i64 a.t.sq, .string a.t.k, .string a.t.v, .int .i64 a.m.ki, .int .i64 a.m.fr, .int .i64 a.m.tt, .int .i64 a.m.di, .int .i64 a.m.b.au, .int .i64 a.m.b.n, .slice MP.b.A MP.b.n MP.b.c, .int .i64 a.m.h.au, .int .i64 a.m.h.ro, .slice MP.h.b.A MP.h.b.n MP.h.b.c, .slice MP.h.p.A MP.h.p.n MP.h.p.c, .int .i64 a.m.c.h.au, .int .i64 a.m.c.h.ro, .slice MP.c.h.b.A MP.c.h.b.n MP.c.h.b.c, .slice MP.c.h.p.A MP.c.h.p.n MP.c.h.p.c, .int .i64 a.m.c.di, .slice MP.c.s.A MP.c.s.n MP.c.s.c, .slice MP.ds.A MP.ds.n MP.ds.c, .bool a.fit, .slice SP.A SP.n SP.c]] w _
  go_enter Tryz.func21, Tryz.ntmps21
  obtain ⟨z, hz⟩ : ∃ z, mayW D = z := ⟨_, rfl⟩
  have HZ := Lib.hid hz
  clear hz
  go_wp2_with fail
  have hX1 : Blk (((w.alloc (.cells #[.int .i64 D.id, .int .i64 D.nodes, .int .i64 D.next, .slice P.op.A P.op.n P.op.c, .int .i64 D.age, .int .i64 D.clock, .slice P.wa.A P.wa.n P.wa.c, .slice P.he.A P.he.n P.he.c, .slice P.re.A P.re.n P.re.c] 27)).alloc (.cells #[.int .i64 a.doo, .int .i64 a.d, .int .i64 a.t.se, .int .i64 a.t.sq, .string a.t.k, .string a.t.v, .int .i64 a.m.ki, .int .i64 a.m.fr, .int .i64 a.m.tt, .int .i64 a.m.di, .int .i64 a.m.b.au, .int .i64 a.m.b.n, .slice MP.b.A MP.b.n MP.b.c, .int .i64 a.m.h.au, .int .i64 a.m.h.ro, .slice MP.h.b.A MP.h.b.n MP.h.b.c, .slice MP.h.p.A MP.h.p.n MP.h.p.c, .int .i64 a.m.c.h.au, .int .i64 a.m.c.h.ro, .slice MP.c.h.b.A MP.c.h.b.n MP.c.h.b.c, .slice MP.c.h.p.A MP.c.h.p.n MP.c.h.p.c, .int .i64 a.m.c.di, .slice MP.c.s.A MP.c.s.n MP.c.s.c, .slice MP.ds.A MP.ds.n MP.ds.c, .bool a.fit, .slice SP.A SP.n SP.c] 51)).alloc (.cells #[.int .i64 0, .int .i64 0, .int .i64 0, .slice none 0 0, .int .i64 0, .int .i64 0, .slice none 0 0, .slice none 0 0, .slice none 0 0] 27)) w.heap.size 27 [.int .i64 D.id, .int .i64 D.nodes, .int .i64 D.next, .slice P.op.A P.op.n P.op.c, .int .i64 D.age, .int .i64 D.clock, .slice P.wa.A P.wa.n P.wa.c, .slice P.he.A P.he.n P.he.c, .slice P.re.A P.re.n P.re.c] := (Blk.new w 27 [.int .i64 D.id, .int .i64 D.nodes, .int .i64 D.next, .slice P.op.A P.op.n P.op.c, .int .i64 D.age, .int .i64 D.clock, .slice P.wa.A P.wa.n P.wa.c, .slice P.he.A P.he.n P.he.c, .slice P.re.A P.re.n P.re.c]).up (by (repeat (first | (with_reducible exact Below.refl _ _) | (with_reducible assumption) | (with_reducible apply bel_alloc) | (with_reducible apply bel_drew) | (with_reducible apply bel_drewN) | (with_reducible refine bel_trans ?_ (by with_reducible assumption)) | (with_reducible refine bel_trans ?_ (HF.out _)) | (with_reducible refine bel_set ?_ (by simp) _) | (with_reducible refine bel_set ?_ (by simp; omega) _) | (with_reducible refine bel_set ?_ (by omega) _))))
  have hX2 : Blk (((w.alloc (.cells #[.int .i64 D.id, .int .i64 D.nodes, .int .i64 D.next, .slice P.op.A P.op.n P.op.c, .int .i64 D.age, .int .i64 D.clock, .slice P.wa.A P.wa.n P.wa.c, .slice P.he.A P.he.n P.he.c, .slice P.re.A P.re.n P.re.c] 27)).alloc (.cells #[.int .i64 a.doo, .int .i64 a.d, .int .i64 a.t.se, .int .i64 a.t.sq, .string a.t.k, .string a.t.v, .int .i64 a.m.ki, .int .i64 a.m.fr, .int .i64 a.m.tt, .int .i64 a.m.di, .int .i64 a.m.b.au, .int .i64 a.m.b.n, .slice MP.b.A MP.b.n MP.b.c, .int .i64 a.m.h.au, .int .i64 a.m.h.ro, .slice MP.h.b.A MP.h.b.n MP.h.b.c, .slice MP.h.p.A MP.h.p.n MP.h.p.c, .int .i64 a.m.c.h.au, .int .i64 a.m.c.h.ro, .slice MP.c.h.b.A MP.c.h.b.n MP.c.h.b.c, .slice MP.c.h.p.A MP.c.h.p.n MP.c.h.p.c, .int .i64 a.m.c.di, .slice MP.c.s.A MP.c.s.n MP.c.s.c, .slice MP.ds.A MP.ds.n MP.ds.c, .bool a.fit, .slice SP.A SP.n SP.c] 51)).alloc (.cells #[.int .i64 0, .int .i64 0, .int .i64 0, .slice none 0 0, .int .i64 0, .int .i64 0, .slice none 0 0, .slice none 0 0, .slice none 0 0] 27)) (w.heap.size + 1) 51 [.int .i64 a.doo, .int .i64 a.d, .int .i64 a.t.se, .int .i64 a.t.sq, .string a.t.k, .string a.t.v, .int .i64 a.m.ki, .int .i64 a.m.fr, .int .i64 a.m.tt, .int .i64 a.m.di, .int .i64 a.m.b.au, .int .i64 a.m.b.n, .slice MP.b.A MP.b.n MP.b.c, .int .i64 a.m.h.au, .int .i64 a.m.h.ro, .slice MP.h.b.A MP.h.b.n MP.h.b.c, .slice MP.h.p.A MP.h.p.n MP.h.p.c, .int .i64 a.m.c.h.au, .int .i64 a.m.c.h.ro, .slice MP.c.h.b.A MP.c.h.b.n MP.c.h.b.c, .slice MP.c.h.p.A MP.c.h.p.n MP.c.h.p.c, .int .i64 a.m.c.di, .slice MP.c.s.A MP.c.s.n MP.c.s.c, .slice MP.ds.A MP.ds.n MP.ds.c, .bool a.fit, .slice SP.A SP.n SP.c] := by
    have := (Blk.new (w.alloc (.cells #[.int .i64 D.id, .int .i64 D.nodes, .int .i64 D.next, .slice P.op.A P.op.n P.op.c, .int .i64 D.age, .int .i64 D.clock, .slice P.wa.A P.wa.n P.wa.c, .slice P.he.A P.he.n P.he.c, .slice P.re.A P.re.n P.re.c] 27)) 51 [.int .i64 a.doo, .int .i64 a.d, .int .i64 a.t.se, .int .i64 a.t.sq, .string a.t.k, .string a.t.v, .int .i64 a.m.ki, .int .i64 a.m.fr, .int .i64 a.m.tt, .int .i64 a.m.di, .int .i64 a.m.b.au, .int .i64 a.m.b.n, .slice MP.b.A MP.b.n MP.b.c, .int .i64 a.m.h.au, .int .i64 a.m.h.ro, .slice MP.h.b.A MP.h.b.n MP.h.b.c, .slice MP.h.p.A MP.h.p.n MP.h.p.c, .int .i64 a.m.c.h.au, .int .i64 a.m.c.h.ro, .slice MP.c.h.b.A MP.c.h.b.n MP.c.h.b.c, .slice MP.c.h.p.A MP.c.h.p.n MP.c.h.p.c, .int .i64 a.m.c.di, .slice MP.c.s.A MP.c.s.n MP.c.s.c, .slice MP.ds.A MP.ds.n MP.ds.c, .bool a.fit, .slice SP.A SP.n SP.c]).up (w' := (((w.alloc (.cells #[.int .i64 D.id, .int .i64 D.nodes, .int .i64 D.next, .slice P.op.A P.op.n P.op.c, .int .i64 D.age, .int .i64 D.clock, .slice P.wa.A P.wa.n P.wa.c, .slice P.he.A P.he.n P.he.c, .slice P.re.A P.re.n P.re.c] 27)).alloc (.cells #[.int .i64 a.doo, .int .i64 a.d, .int .i64 a.t.se, .int .i64 a.t.sq, .string a.t.k, .string a.t.v, .int .i64 a.m.ki, .int .i64 a.m.fr, .int .i64 a.m.tt, .int .i64 a.m.di, .int .i64 a.m.b.au, .int .i64 a.m.b.n, .slice MP.b.A MP.b.n MP.b.c, .int .i64 a.m.h.au, .int .i64 a.m.h.ro, .slice MP.h.b.A MP.h.b.n MP.h.b.c, .slice MP.h.p.A MP.h.p.n MP.h.p.c, .int .i64 a.m.c.h.au, .int .i64 a.m.c.h.ro, .slice MP.c.h.b.A MP.c.h.b.n MP.c.h.b.c, .slice MP.c.h.p.A MP.c.h.p.n MP.c.h.p.c, .int .i64 a.m.c.di, .slice MP.c.s.A MP.c.s.n MP.c.s.c, .slice MP.ds.A MP.ds.n MP.ds.c, .bool a.fit, .slice SP.A SP.n SP.c] 51)).alloc (.cells #[.int .i64 0, .int .i64 0, .int .i64 0, .slice none 0 0, .int .i64 0, .int .i64 0, .slice none 0 0, .slice none 0 0, .slice none 0 0] 27))) (by (repeat (first | (with_reducible exact Below.refl _ _) | (with_reducible assumption) | (with_reducible apply bel_alloc) | (with_reducible apply bel_drew) | (with_reducible apply bel_drewN) | (with_reducible refine bel_trans ?_ (by with_reducible assumption)) | (with_reducible refine bel_trans ?_ (HF.out _)) | (with_reducible refine bel_set ?_ (by simp) _) | (with_reducible refine bel_set ?_ (by simp; omega) _) | (with_reducible refine bel_set ?_ (by omega) _))))
    simpa using this
  have hX3 : Blk (((w.alloc (.cells #[.int .i64 D.id, .int .i64 D.nodes, .int .i64 D.next, .slice P.op.A P.op.n P.op.c, .int .i64 D.age, .int .i64 D.clock, .slice P.wa.A P.wa.n P.wa.c, .slice P.he.A P.he.n P.he.c, .slice P.re.A P.re.n P.re.c] 27)).alloc (.cells #[.int .i64 a.doo, .int .i64 a.d, .int .i64 a.t.se, .int .i64 a.t.sq, .string a.t.k, .string a.t.v, .int .i64 a.m.ki, .int .i64 a.m.fr, .int .i64 a.m.tt, .int .i64 a.m.di, .int .i64 a.m.b.au, .int .i64 a.m.b.n, .slice MP.b.A MP.b.n MP.b.c, .int .i64 a.m.h.au, .int .i64 a.m.h.ro, .slice MP.h.b.A MP.h.b.n MP.h.b.c, .slice MP.h.p.A MP.h.p.n MP.h.p.c, .int .i64 a.m.c.h.au, .int .i64 a.m.c.h.ro, .slice MP.c.h.b.A MP.c.h.b.n MP.c.h.b.c, .slice MP.c.h.p.A MP.c.h.p.n MP.c.h.p.c, .int .i64 a.m.c.di, .slice MP.c.s.A MP.c.s.n MP.c.s.c, .slice MP.ds.A MP.ds.n MP.ds.c, .bool a.fit, .slice SP.A SP.n SP.c] 51)).alloc (.cells #[.int .i64 0, .int .i64 0, .int .i64 0, .slice none 0 0, .int .i64 0, .int .i64 0, .slice none 0 0, .slice none 0 0, .slice none 0 0] 27)) (w.heap.size + 2) 27 [.int .i64 0, .int .i64 0, .int .i64 0, .slice none 0 0, .int .i64 0, .int .i64 0, .slice none 0 0, .slice none 0 0, .slice none 0 0] := by
    have := Blk.new ((w.alloc (.cells #[.int .i64 D.id, .int .i64 D.nodes, .int .i64 D.next, .slice P.op.A P.op.n P.op.c, .int .i64 D.age, .int .i64 D.clock, .slice P.wa.A P.wa.n P.wa.c, .slice P.he.A P.he.n P.he.c, .slice P.re.A P.re.n P.re.c] 27)).alloc (.cells #[.int .i64 a.doo, .int .i64 a.d, .int .i64 a.t.se, .int .i64 a.t.sq, .string a.t.k, .string a.t.v, .int .i64 a.m.ki, .int .i64 a.m.fr, .int .i64 a.m.tt, .int .i64 a.m.di, .int .i64 a.m.b.au, .int .i64 a.m.b.n, .slice MP.b.A MP.b.n MP.b.c, .int .i64 a.m.h.au, .int .i64 a.m.h.ro, .slice MP.h.b.A MP.h.b.n MP.h.b.c, .slice MP.h.p.A MP.h.p.n MP.h.p.c, .int .i64 a.m.c.h.au, .int .i64 a.m.c.h.ro, .slice MP.c.h.b.A MP.c.h.b.n MP.c.h.b.c, .slice MP.c.h.p.A MP.c.h.p.n MP.c.h.p.c, .int .i64 a.m.c.di, .slice MP.c.s.A MP.c.s.n MP.c.s.c, .slice MP.ds.A MP.ds.n MP.ds.c, .bool a.fit, .slice SP.A SP.n SP.c] 51)) 27 [.int .i64 0, .int .i64 0, .int .i64 0, .slice none 0 0, .int .i64 0, .int .i64 0, .slice none 0 0, .slice none 0 0, .slice none 0 0]
    simpa using this
  have hbX : Below w.heap.size w (((w.alloc (.cells #[.int .i64 D.id, .int .i64 D.nodes, .int .i64 D.next, .slice P.op.A P.op.n P.op.c, .int .i64 D.age, .int .i64 D.clock, .slice P.wa.A P.wa.n P.wa.c, .slice P.he.A P.he.n P.he.c, .slice P.re.A P.re.n P.re.c] 27)).alloc (.cells #[.int .i64 a.doo, .int .i64 a.d, .int .i64 a.t.se, .int .i64 a.t.sq, .string a.t.k, .string a.t.v, .int .i64 a.m.ki, .int .i64 a.m.fr, .int .i64 a.m.tt, .int .i64 a.m.di, .int .i64 a.m.b.au, .int .i64 a.m.b.n, .slice MP.b.A MP.b.n MP.b.c, .int .i64 a.m.h.au, .int .i64 a.m.h.ro, .slice MP.h.b.A MP.h.b.n MP.h.b.c, .slice MP.h.p.A MP.h.p.n MP.h.p.c, .int .i64 a.m.c.h.au, .int .i64 a.m.c.h.ro, .slice MP.c.h.b.A MP.c.h.b.n MP.c.h.b.c, .slice MP.c.h.p.A MP.c.h.p.n MP.c.h.p.c, .int .i64 a.m.c.di, .slice MP.c.s.A MP.c.s.n MP.c.s.c, .slice MP.ds.A MP.ds.n MP.ds.c, .bool a.fit, .slice SP.A SP.n SP.c] 51)).alloc (.cells #[.int .i64 0, .int .i64 0, .int .i64 0, .slice none 0 0, .int .i64 0, .int .i64 0, .slice none 0 0, .slice none 0 0, .slice none 0 0] 27)) := by (repeat (first | (with_reducible exact Below.refl _ _) | (with_reducible assumption) | (with_reducible apply bel_alloc) | (with_reducible apply bel_drew) | (with_reducible apply bel_drewN) | (with_reducible refine bel_trans ?_ (by with_reducible assumption)) | (with_reducible refine bel_trans ?_ (HF.out _)) | (with_reducible refine bel_set ?_ (by simp) _) | (with_reducible refine bel_set ?_ (by simp; omega) _) | (with_reducible refine bel_set ?_ (by omega) _)))
  generalize (((w.alloc (.cells #[.int .i64 D.id, .int .i64 D.nodes, .int .i64 D.next, .slice P.op.A P.op.n P.op.c, .int .i64 D.age, .int .i64 D.clock, .slice P.wa.A P.wa.n P.wa.c, .slice P.he.A P.he.n P.he.c, .slice P.re.A P.re.n P.re.c] 27)).alloc (.cells #[.int .i64 a.doo, .int .i64 a.d, .int .i64 a.t.se, .int .i64 a.t.sq, .string a.t.k, .string a.t.v, .int .i64 a.m.ki, .int .i64 a.m.fr, .int .i64 a.m.tt, .int .i64 a.m.di, .int .i64 a.m.b.au, .int .i64 a.m.b.n, .slice MP.b.A MP.b.n MP.b.c, .int .i64 a.m.h.au, .int .i64 a.m.h.ro, .slice MP.h.b.A MP.h.b.n MP.h.b.c, .slice MP.h.p.A MP.h.p.n MP.h.p.c, .int .i64 a.m.c.h.au, .int .i64 a.m.c.h.ro, .slice MP.c.h.b.A MP.c.h.b.n MP.c.h.b.c, .slice MP.c.h.p.A MP.c.h.p.n MP.c.h.p.c, .int .i64 a.m.c.di, .slice MP.c.s.A MP.c.s.n MP.c.s.c, .slice MP.ds.A MP.ds.n MP.ds.c, .bool a.fit, .slice SP.A SP.n SP.c] 51)).alloc (.cells #[.int .i64 0, .int .i64 0, .int .i64 0, .slice none 0 0, .int .i64 0, .int .i64 0, .slice none 0 0, .slice none 0 0, .slice none 0 0] 27)) = X at *
  have HX1 := Lib.hid hX1
  have HX2 := Lib.hid hX2
  have HX3 := Lib.hid hX3
  have HBX := Lib.hid hbX
  clear hX1 hX2 hX3
  refine (ref0_CopyWorker P D _ (H.out.up hbX) HS.out).mono ?_
  rintro e w1 ⟨Pi, he1, hOi, hb1⟩
  simp only [WorkP.val] at he1
  subst he1
  have hbI : Below w1.heap.size w1 (w1.alloc (.cells #[.int .i64 D.id, .int .i64 D.nodes, .int .i64 D.next, .slice Pi.op.A Pi.op.n Pi.op.c, .int .i64 D.age, .int .i64 D.clock, .slice Pi.wa.A Pi.wa.n Pi.wa.c, .slice Pi.he.A Pi.he.n Pi.he.c, .slice Pi.re.A Pi.re.n Pi.re.c] 27)) := by (repeat (first | (with_reducible exact Below.refl _ _) | (with_reducible assumption) | (with_reducible apply bel_alloc) | (with_reducible apply bel_drew) | (with_reducible apply bel_drewN) | (with_reducible refine bel_trans ?_ (by with_reducible assumption)) | (with_reducible refine bel_trans ?_ (HF.out _)) | (with_reducible refine bel_set ?_ (by simp) _) | (with_reducible refine bel_set ?_ (by simp; omega) _) | (with_reducible refine bel_set ?_ (by omega) _)))
  have hY1 := (HX1.out.up hb1)
  have HOi := Lib.hid (hOi.up hbI)
  have HI := Lib.hid (Blk.new w1 27 [.int .i64 D.id, .int .i64 D.nodes, .int .i64 D.next, .slice Pi.op.A Pi.op.n Pi.op.c, .int .i64 D.age, .int .i64 D.clock, .slice Pi.wa.A Pi.wa.n Pi.wa.c, .slice Pi.he.A Pi.he.n Pi.he.c, .slice Pi.re.A Pi.re.n Pi.re.c])
  have HY2 := Lib.hid ((HX2.out.up hb1).up hbI)
  have HY3 := Lib.hid ((HX3.out.up hb1).up hbI)
  have HY1 := Lib.hid (hY1.up hbI)
  have hbY := bel_trans (bel_trans hbX hb1) hbI
  have ly1 := hY1.lt
  have a_0 := (hY1.box).2 0 _ rfl; have a_1 := (hY1.box).2 1 _ rfl; have a_2 := (hY1.box).2 2 _ rfl; have a_3 := (hY1.box).2 3 _ rfl; have a_4 := (hY1.box).2 4 _ rfl; have a_5 := (hY1.box).2 5 _ rfl; have a_6 := (hY1.box).2 6 _ rfl; have a_7 := (hY1.box).2 7 _ rfl; have a_8 := (hY1.box).2 8 _ rfl
  have hzX : w.heap.size + 3 ≤ w1.heap.size := by have := (HX3.out.up hb1).lt; omega
  clear hY1 HX1 HX2 HX3 hOi hb1 hbI hbX HBX
  go_wp2_with fail
  clear a_0 a_1 a_2 a_3 a_4 a_5 a_6 a_7 a_8 ly1
  have hgiE : w1.heap.size < (w1.alloc (.cells #[.int .i64 D.id, .int .i64 D.nodes, .int .i64 D.next, .slice Pi.op.A Pi.op.n Pi.op.c, .int .i64 D.age, .int .i64 D.clock, .slice Pi.wa.A Pi.wa.n Pi.wa.c, .slice Pi.he.A Pi.he.n Pi.he.c, .slice Pi.re.A Pi.re.n Pi.re.c] 27)).heap.size := HI.out.lt
  obtain ⟨gi, hgi⟩ : ∃ g, g = w1.heap.size := ⟨_, rfl⟩
  obtain ⟨X1, hX1⟩ : ∃ X1, X1 = (w1.alloc (.cells #[.int .i64 D.id, .int .i64 D.nodes, .int .i64 D.next, .slice Pi.op.A Pi.op.n Pi.op.c, .int .i64 D.age, .int .i64 D.clock, .slice Pi.wa.A Pi.wa.n Pi.wa.c, .slice Pi.he.A Pi.he.n Pi.he.c, .slice Pi.re.A Pi.re.n Pi.re.c] 27)) := ⟨_, rfl⟩
  rw [← hX1, ← hgi] at HI
  rw [← hX1] at HOi HY1 HY2 HY3 hbY
  rw [← hX1, ← hgi]
  rw [← hX1, ← hgi] at hgiE
  rw [← hgi] at hzX
  clear hX1 hgi
  refine (ref13_May P D z _ (H.out.up hbY) HZ.out).mono ?_
  rintro e w2 ⟨rfl, hb2⟩
  have hA2 := HY2.out.up hb2
  have b_0 := hA2.box.2 0 _ rfl
  have lA2 := hA2.lt
  have lA1 : w.heap.size < w2.heap.size := by omega
  clear hA2
  go_upto_region 40 with (go_at_call 40; refine (law0_Within a.doo 11 8 _ (by decide) (by decide) HDO.out).mono ?_; rintro e w' ⟨rfl, rfl⟩)
  clear b_0 lA2 lA1
  have hbz : Below w2.heap.size w2 ((w2.alloc (.cells #[.int .i64 0, .int .i64 0, .int .i64 0, .slice none 0 0, .int .i64 0, .int .i64 0, .slice none 0 0, .slice none 0 0, .slice none 0 0, .slice none 0 0] 70)).alloc (.cells #[.int .i64 0, .int .i64 0, .int .i64 0, .slice none 0 0, .int .i64 0, .int .i64 0, .slice none 0 0, .slice none 0 0, .slice none 0 0] 27)) := by (repeat (first | (with_reducible exact Below.refl _ _) | (with_reducible assumption) | (with_reducible apply bel_alloc) | (with_reducible apply bel_drew) | (with_reducible apply bel_drewN) | (with_reducible refine bel_trans ?_ (by with_reducible assumption)) | (with_reducible refine bel_trans ?_ (HF.out _)) | (with_reducible refine bel_set ?_ (by simp) _) | (with_reducible refine bel_set ?_ (by simp; omega) _) | (with_reducible refine bel_set ?_ (by omega) _)))
  have hs0 : Blk ((w2.alloc (.cells #[.int .i64 0, .int .i64 0, .int .i64 0, .slice none 0 0, .int .i64 0, .int .i64 0, .slice none 0 0, .slice none 0 0, .slice none 0 0, .slice none 0 0] 70)).alloc (.cells #[.int .i64 0, .int .i64 0, .int .i64 0, .slice none 0 0, .int .i64 0, .int .i64 0, .slice none 0 0, .slice none 0 0, .slice none 0 0] 27)) w2.heap.size 70 [.int .i64 0, .int .i64 0, .int .i64 0, .slice none 0 0, .int .i64 0, .int .i64 0, .slice none 0 0, .slice none 0 0, .slice none 0 0, .slice none 0 0] := (Blk.new w2 70 [.int .i64 0, .int .i64 0, .int .i64 0, .slice none 0 0, .int .i64 0, .int .i64 0, .slice none 0 0, .slice none 0 0, .slice none 0 0, .slice none 0 0]).up (by (repeat (first | (with_reducible exact Below.refl _ _) | (with_reducible assumption) | (with_reducible apply bel_alloc) | (with_reducible apply bel_drew) | (with_reducible apply bel_drewN) | (with_reducible refine bel_trans ?_ (by with_reducible assumption)) | (with_reducible refine bel_trans ?_ (HF.out _)) | (with_reducible refine bel_set ?_ (by simp) _) | (with_reducible refine bel_set ?_ (by simp; omega) _) | (with_reducible refine bel_set ?_ (by omega) _))))
  have hx0 : Blk ((w2.alloc (.cells #[.int .i64 0, .int .i64 0, .int .i64 0, .slice none 0 0, .int .i64 0, .int .i64 0, .slice none 0 0, .slice none 0 0, .slice none 0 0, .slice none 0 0] 70)).alloc (.cells #[.int .i64 0, .int .i64 0, .int .i64 0, .slice none 0 0, .int .i64 0, .int .i64 0, .slice none 0 0, .slice none 0 0, .slice none 0 0] 27)) (w2.heap.size + 1) 27 [.int .i64 0, .int .i64 0, .int .i64 0, .slice none 0 0, .int .i64 0, .int .i64 0, .slice none 0 0, .slice none 0 0, .slice none 0 0] := by
    have := Blk.new (w2.alloc (.cells #[.int .i64 0, .int .i64 0, .int .i64 0, .slice none 0 0, .int .i64 0, .int .i64 0, .slice none 0 0, .slice none 0 0, .slice none 0 0, .slice none 0 0] 70)) 27 [.int .i64 0, .int .i64 0, .int .i64 0, .slice none 0 0, .int .i64 0, .int .i64 0, .slice none 0 0, .slice none 0 0, .slice none 0 0]
    simpa using this
  obtain ⟨gx, hgx⟩ : ∃ g, g = w2.heap.size + 1 := ⟨_, rfl⟩
  rw [← hgx] at hx0 ⊢
  obtain ⟨gs, hgs⟩ : ∃ g, g = w2.heap.size := ⟨_, rfl⟩
  rw [← hgs] at hs0 ⊢
  obtain ⟨Y, hY⟩ : ∃ Y, Y = ((w2.alloc (.cells #[.int .i64 0, .int .i64 0, .int .i64 0, .slice none 0 0, .int .i64 0, .int .i64 0, .slice none 0 0, .slice none 0 0, .slice none 0 0, .slice none 0 0] 70)).alloc (.cells #[.int .i64 0, .int .i64 0, .int .i64 0, .slice none 0 0, .int .i64 0, .int .i64 0, .slice none 0 0, .slice none 0 0, .slice none 0 0] 27)) := ⟨_, rfl⟩
  rw [← hY] at hbz hs0 hx0 ⊢
  have hgisz := (HI.out.up hb2).lt
  have hgis : gi < gs := by omega
  have hgsx : gs < gx := by omega
  have hgw : w.heap.size + 2 < gi := by omega
  have HU1 := Lib.hid ((HY1.out.up hb2).up hbz)
  have HU2 := Lib.hid ((HY2.out.up hb2).up hbz)
  have HU3 := Lib.hid ((HY3.out.up hb2).up hbz)
  have HUi := Lib.hid ((HI.out.up hb2).up hbz)
  have HUs := Lib.hid hs0
  have HUx := Lib.hid hx0
  have HOI := Lib.hid ((HOi.out.up hb2).up hbz)
  have hbU := bel_trans (bel_trans hbY hb2) hbz
  clear hY hgx hgs hs0 hx0 hbz hgisz hgiE hzX HY1 HY2 HY3 HI HOi hbY hb2
  cases z
  · skip
    go_upto_region 42 with fail
    have hvi := HUi.out
    have li := hvi.lt
    have i_0 := (hvi.box).2 0 _ rfl; have i_1 := (hvi.box).2 1 _ rfl; have i_2 := (hvi.box).2 2 _ rfl; have i_3 := (hvi.box).2 3 _ rfl; have i_4 := (hvi.box).2 4 _ rfl; have i_5 := (hvi.box).2 5 _ rfl; have i_6 := (hvi.box).2 6 _ rfl; have i_7 := (hvi.box).2 7 _ rfl; have i_8 := (hvi.box).2 8 _ rfl
    have hux := HUx.out
    go_upto_region 53 with (go_at_call 55; refine (worker_Tick_no Pi D _ (HOI.out.work HS.out) HZ.out).mono ?_; rintro e wa ⟨he, hba⟩; simp only [zeroW] at he; subst he; have hXa := HUx.out.up hba; have fXa := hXa.frozen; have lXa := hXa.lt; have x_0 := (hXa.box).2 0 _ rfl; have x_1 := (hXa.box).2 1 _ rfl; have x_2 := (hXa.box).2 2 _ rfl; have x_3 := (hXa.box).2 3 _ rfl; have x_4 := (hXa.box).2 4 _ rfl; have x_5 := (hXa.box).2 5 _ rfl; have x_6 := (hXa.box).2 6 _ rfl; have x_7 := (hXa.box).2 7 _ rfl; have x_8 := (hXa.box).2 8 _ rfl; have HXa := Lib.hid hXa; clear hXa)
    have hli := HUi.out.lt
    rename_i K9 hK9
    obtain ⟨gq, hgq⟩ : ∃ g, g = wa.heap.size := ⟨_, rfl⟩
    obtain ⟨W, hW⟩ : ∃ W, W = ((((((((((wa.setCell ⟨gx, 0, none⟩ (.int .i64 0)).setCell ⟨gx, 1, none⟩ (.int .i64 0)).setCell ⟨gx, 2, none⟩ (.int .i64 0)).setCell ⟨gx, 3, none⟩ (.slice none 0 0)).setCell ⟨gx, 4, none⟩ (.int .i64 0)).setCell ⟨gx, 5, none⟩ (.int .i64 0)).setCell ⟨gx, 6, none⟩ (.slice none 0 0)).setCell ⟨gx, 7, none⟩ (.slice none 0 0)).setCell ⟨gx, 8, none⟩ (.slice none 0 0)).alloc (.cells #[.int .i64 0, .int .i64 0, .int .i64 0, .slice none 0 0, .int .i64 0, .int .i64 0, .slice none 0 0, .slice none 0 0, .slice none 0 0, .slice none 0 0] 70)) := ⟨_, rfl⟩
    have hal : Below (((((((((wa.setCell ⟨gx, 0, none⟩ (.int .i64 0)).setCell ⟨gx, 1, none⟩ (.int .i64 0)).setCell ⟨gx, 2, none⟩ (.int .i64 0)).setCell ⟨gx, 3, none⟩ (.slice none 0 0)).setCell ⟨gx, 4, none⟩ (.int .i64 0)).setCell ⟨gx, 5, none⟩ (.int .i64 0)).setCell ⟨gx, 6, none⟩ (.slice none 0 0)).setCell ⟨gx, 7, none⟩ (.slice none 0 0)).setCell ⟨gx, 8, none⟩ (.slice none 0 0)).heap.size (((((((((wa.setCell ⟨gx, 0, none⟩ (.int .i64 0)).setCell ⟨gx, 1, none⟩ (.int .i64 0)).setCell ⟨gx, 2, none⟩ (.int .i64 0)).setCell ⟨gx, 3, none⟩ (.slice none 0 0)).setCell ⟨gx, 4, none⟩ (.int .i64 0)).setCell ⟨gx, 5, none⟩ (.int .i64 0)).setCell ⟨gx, 6, none⟩ (.slice none 0 0)).setCell ⟨gx, 7, none⟩ (.slice none 0 0)).setCell ⟨gx, 8, none⟩ (.slice none 0 0)) W := by rw [hW]; exact bel_alloc (Below.refl _ _)
    have hqB : Blk W gq 70 [.int .i64 0, .int .i64 0, .int .i64 0, .slice none 0 0, .int .i64 0, .int .i64 0, .slice none 0 0, .slice none 0 0, .slice none 0 0, .slice none 0 0] := by
      rw [hW, hgq]
      have := Blk.new (((((((((wa.setCell ⟨gx, 0, none⟩ (.int .i64 0)).setCell ⟨gx, 1, none⟩ (.int .i64 0)).setCell ⟨gx, 2, none⟩ (.int .i64 0)).setCell ⟨gx, 3, none⟩ (.slice none 0 0)).setCell ⟨gx, 4, none⟩ (.int .i64 0)).setCell ⟨gx, 5, none⟩ (.int .i64 0)).setCell ⟨gx, 6, none⟩ (.slice none 0 0)).setCell ⟨gx, 7, none⟩ (.slice none 0 0)).setCell ⟨gx, 8, none⟩ (.slice none 0 0)) 70 [.int .i64 0, .int .i64 0, .int .i64 0, .slice none 0 0, .int .i64 0, .int .i64 0, .slice none 0 0, .slice none 0 0, .slice none 0 0, .slice none 0 0]
      simpa [World.setCell] using this
    rw [← hW, ← hgq]
    clear hW hgq
    have hsx := set9 HXa.out rfl (.int .i64 0) (.int .i64 0) (.int .i64 0) (.slice none 0 0) (.int .i64 0) (.int .i64 0) (.slice none 0 0) (.slice none 0 0) (.slice none 0 0)
    have htk : TKeep 27 Y W := (TKeep.of_below hba).trans ((TKeep.sets9 HXa.out (.int .i64 0) (.int .i64 0) (.int .i64 0) (.slice none 0 0) (.int .i64 0) (.int .i64 0) (.slice none 0 0) (.slice none 0 0) (.slice none 0 0)).trans (TKeep.of_below hal))
    have hblk : ∀ g t cs, Blk Y g t cs → g ≠ gx → Blk W g t cs := fun g t cs h hne => ((h.up hba).sets9 hne (.int .i64 0) (.int .i64 0) (.int .i64 0) (.slice none 0 0) (.int .i64 0) (.int .i64 0) (.slice none 0 0) (.slice none 0 0) (.slice none 0 0)).up hal
    have hbWw : Below w.heap.size w W := (belw_sets9 (bel_trans hbU hba) (by omega) (.int .i64 0) (.int .i64 0) (.int .i64 0) (.slice none 0 0) (.int .i64 0) (.int .i64 0) (.slice none 0 0) (.slice none 0 0) (.slice none 0 0)).trans (hal.mono (by have h1 := hbU.size; have h2 := hba.size; simp [World.setCell]; omega))
    have hBW : Y.heap.size ≤ W.heap.size := by have h2 := hba.size; have h3 := hal.size; simp [World.setCell] at h3; omega
    have l1 := HU1.out.lt
    have l3 := HU3.out.lt
    have hwB := hbU.size
    exact step_tail w W Y.heap.size w.heap.size (w.heap.size + 1 + 1) gi gq gx P Pi nilP nilP D zeroWD 1 none none 0 0 0 0 hK9 hbWw hwB hBW (by omega) l3 (by omega) (by omega) (by intro e; rw [e] at hqB; have h9 := hblk _ _ _ HU3.out (by omega); have h8 : W.heap[w.heap.size + 1 + 1]? = some (.cells #[.int .i64 0, .int .i64 0, .int .i64 0, .slice none 0 0, .int .i64 0, .int .i64 0, .slice none 0 0, .slice none 0 0, .slice none 0 0, .slice none 0 0] 70 (0, 0)) := hqB; have h7 : W.heap[w.heap.size + 1 + 1]? = some (.cells #[.int .i64 0, .int .i64 0, .int .i64 0, .slice none 0 0, .int .i64 0, .int .i64 0, .slice none 0 0, .slice none 0 0, .slice none 0 0] 27 (0, 0)) := h9; rw [h8] at h7; simp at h7)
      (fun Y' hY' => ⟨H.out.up (hbWw.trans (hY'.mono hwB)), (HOI.out.tk (tk_belB htk hY') twWork).work HS.out, (hblk _ _ _ HU1.out (by omega)).below hY' l1, (hblk _ _ _ HUi.out (by omega)).below hY' hli, (hblk _ _ _ HU3.out (by omega)).below hY' l3⟩)
      (fun Y' hY' => ⟨zeroW_R _, hqB.up hY'⟩) (fun h => absurd h (by decide))
      (fun Y' hY' a0 a1 a2 a3 a4 a5 a6 a7 a8 => by rw [if_neg (by decide)]; exact H.out.up (belw_sets9 (hbWw.trans (hY'.mono hwB)) (by omega) a0 a1 a2 a3 a4 a5 a6 a7 a8))
      (hsx.up hal) (zeroW_O _ _) zeroW_big (by decide) (by decide) (by decide) (by decide) (fun x hx => by simp [zeroWD] at hx) (fun x hx => by simp [zeroWD] at hx)
      (fun Y' hY' => ref0_EqMessages none 0 0 none 0 0 [] Y' (MsgsR.nil _) (MsgsR.nil _)) (fun Y' hY' hk => (law0_Messages0 Y').mono fun e w' h => ⟨h.1, h.2.mono (Nat.le_trans hBW hY'.size)⟩)
  · have hn16 : D.nodes ≤ 16 := (isS_bd (mayW_iff.1 HZ.out).1).2
    go_upto_region 41 with fail
    have lx1 := HU1.out.lt
    have a_0 := (HU1.out.box).2 0 _ rfl; have a_1 := (HU1.out.box).2 1 _ rfl; have a_2 := (HU1.out.box).2 2 _ rfl; have a_3 := (HU1.out.box).2 3 _ rfl; have a_4 := (HU1.out.box).2 4 _ rfl; have a_5 := (HU1.out.box).2 5 _ rfl; have a_6 := (HU1.out.box).2 6 _ rfl; have a_7 := (HU1.out.box).2 7 _ rfl; have a_8 := (HU1.out.box).2 8 _ rfl
    go_upto_region 42 with (go_at_call 54; refine (ref13_Tick P D _ (H.out.up hbU) HZ.out HS.out (Nat.le_trans HN.out (by decide))).mono ?_; rintro e w6 ⟨gq, P5, uA, un, uc, us, rfl, hQ6, hO6, hM6, hgq0, hb6⟩; have HQ6 := Lib.hid hQ6; have HO5 := Lib.hid hO6; have HM5 := Lib.hid hM6; clear hQ6 hO6 hM6)
    clear a_0 a_1 a_2 a_3 a_4 a_5 a_6 a_7 a_8 lx1
    have HG1 := Lib.hid (HU1.out.up hb6)
    have HG3 := Lib.hid (HU3.out.up hb6)
    have HGi := Lib.hid (HUi.out.up hb6)
    have HGx := Lib.hid (HUx.out.up hb6)
    have HGO := Lib.hid (HOI.out.up hb6)
    have hgxY := HUx.out.lt
    have hg3Y := HU3.out.lt
    have hsz6 := hb6.size
    have hbB := bel_trans hbU hb6
    have hvi := HGi.out
    have li := hvi.lt
    have i_0 := (hvi.box).2 0 _ rfl; have i_1 := (hvi.box).2 1 _ rfl; have i_2 := (hvi.box).2 2 _ rfl; have i_3 := (hvi.box).2 3 _ rfl; have i_4 := (hvi.box).2 4 _ rfl; have i_5 := (hvi.box).2 5 _ rfl; have i_6 := (hvi.box).2 6 _ rfl; have i_7 := (hvi.box).2 7 _ rfl; have i_8 := (hvi.box).2 8 _ rfl
    clear HU1 HU2 HU3 HUi HUs HUx HOI hbU hvi
    go_upto_region 53 with (go_at_call 55; refine (worker_Tick Pi D _ (HGO.out.work HS.out) HS.out HZ.out (Nat.le_trans HN.out (by decide))).mono ?_; rintro e wa ⟨P8, lA, ln, lc, ls, he, hO8, hM8, hba⟩; simp only [WorkP.val] at he; subst he; have hXa := HGx.out.up hba; have fXa := hXa.frozen; have lXa := hXa.lt; have x_0 := (hXa.box).2 0 _ rfl; have x_1 := (hXa.box).2 1 _ rfl; have x_2 := (hXa.box).2 2 _ rfl; have x_3 := (hXa.box).2 3 _ rfl; have x_4 := (hXa.box).2 4 _ rfl; have x_5 := (hXa.box).2 5 _ rfl; have x_6 := (hXa.box).2 6 _ rfl; have x_7 := (hXa.box).2 7 _ rfl; have x_8 := (hXa.box).2 8 _ rfl; have HXa := Lib.hid hXa; have HO8 := Lib.hid hO8; have HM8 := Lib.hid hM8; clear hXa hO8 hM8)
    rename_i K9 hK9
    clear li i_0 i_1 i_2 i_3 i_4 i_5 i_6 i_7 i_8 x_0 x_1 x_2 x_3 x_4 x_5 x_6 x_7 x_8 fXa lXa
    have hsx := set9 HXa.out rfl (.int .i64 (tickD D).id) (.int .i64 (tickD D).nodes) (.int .i64 (tickD D).next) (.slice P8.op.A P8.op.n P8.op.c) (.int .i64 (tickD D).age) (.int .i64 (tickD D).clock) (.slice P8.wa.A P8.wa.n P8.wa.c) (.slice P8.he.A P8.he.n P8.he.c) (.slice P8.re.A P8.re.n P8.re.c)
    have hO8w := HO8.out.tk (TKeep.sets9 HXa.out (.int .i64 (tickD D).id) (.int .i64 (tickD D).nodes) (.int .i64 (tickD D).next) (.slice P8.op.A P8.op.n P8.op.c) (.int .i64 (tickD D).age) (.int .i64 (tickD D).clock) (.slice P8.wa.A P8.wa.n P8.wa.c) (.slice P8.he.A P8.he.n P8.he.c) (.slice P8.re.A P8.re.n P8.re.c)) twWork
    have hM8w : OwnT dMsg (((((((((wa.setCell ⟨gx, 0, none⟩ (.int .i64 (tickD D).id)).setCell ⟨gx, 1, none⟩ (.int .i64 (tickD D).nodes)).setCell ⟨gx, 2, none⟩ (.int .i64 (tickD D).next)).setCell ⟨gx, 3, none⟩ (.slice P8.op.A P8.op.n P8.op.c)).setCell ⟨gx, 4, none⟩ (.int .i64 (tickD D).age)).setCell ⟨gx, 5, none⟩ (.int .i64 (tickD D).clock)).setCell ⟨gx, 6, none⟩ (.slice P8.wa.A P8.wa.n P8.wa.c)).setCell ⟨gx, 7, none⟩ (.slice P8.he.A P8.he.n P8.he.c)).setCell ⟨gx, 8, none⟩ (.slice P8.re.A P8.re.n P8.re.c)) w6.heap.size (.slice lA ln lc) ls (tickL D) := HM8.out.lows (by omega) (.int .i64 (tickD D).id) (.int .i64 (tickD D).nodes) (.int .i64 (tickD D).next) (.slice P8.op.A P8.op.n P8.op.c) (.int .i64 (tickD D).age) (.int .i64 (tickD D).clock) (.slice P8.wa.A P8.wa.n P8.wa.c) (.slice P8.he.A P8.he.n P8.he.c) (.slice P8.re.A P8.re.n P8.re.c)
    have hM5w : OwnT dMsg (((((((((wa.setCell ⟨gx, 0, none⟩ (.int .i64 (tickD D).id)).setCell ⟨gx, 1, none⟩ (.int .i64 (tickD D).nodes)).setCell ⟨gx, 2, none⟩ (.int .i64 (tickD D).next)).setCell ⟨gx, 3, none⟩ (.slice P8.op.A P8.op.n P8.op.c)).setCell ⟨gx, 4, none⟩ (.int .i64 (tickD D).age)).setCell ⟨gx, 5, none⟩ (.int .i64 (tickD D).clock)).setCell ⟨gx, 6, none⟩ (.slice P8.wa.A P8.wa.n P8.wa.c)).setCell ⟨gx, 7, none⟩ (.slice P8.he.A P8.he.n P8.he.c)).setCell ⟨gx, 8, none⟩ (.slice P8.re.A P8.re.n P8.re.c)) Y.heap.size (.slice uA un uc) us (tickL D) := (HM5.out.up hba).lows (by omega) (.int .i64 (tickD D).id) (.int .i64 (tickD D).nodes) (.int .i64 (tickD D).next) (.slice P8.op.A P8.op.n P8.op.c) (.int .i64 (tickD D).age) (.int .i64 (tickD D).clock) (.slice P8.wa.A P8.wa.n P8.wa.c) (.slice P8.he.A P8.he.n P8.he.c) (.slice P8.re.A P8.re.n P8.re.c)
    have htk : TKeep 27 w6 (((((((((wa.setCell ⟨gx, 0, none⟩ (.int .i64 (tickD D).id)).setCell ⟨gx, 1, none⟩ (.int .i64 (tickD D).nodes)).setCell ⟨gx, 2, none⟩ (.int .i64 (tickD D).next)).setCell ⟨gx, 3, none⟩ (.slice P8.op.A P8.op.n P8.op.c)).setCell ⟨gx, 4, none⟩ (.int .i64 (tickD D).age)).setCell ⟨gx, 5, none⟩ (.int .i64 (tickD D).clock)).setCell ⟨gx, 6, none⟩ (.slice P8.wa.A P8.wa.n P8.wa.c)).setCell ⟨gx, 7, none⟩ (.slice P8.he.A P8.he.n P8.he.c)).setCell ⟨gx, 8, none⟩ (.slice P8.re.A P8.re.n P8.re.c)) := (TKeep.of_below hba).trans (TKeep.sets9 HXa.out (.int .i64 (tickD D).id) (.int .i64 (tickD D).nodes) (.int .i64 (tickD D).next) (.slice P8.op.A P8.op.n P8.op.c) (.int .i64 (tickD D).age) (.int .i64 (tickD D).clock) (.slice P8.wa.A P8.wa.n P8.wa.c) (.slice P8.he.A P8.he.n P8.he.c) (.slice P8.re.A P8.re.n P8.re.c))
    have hblk : ∀ g t cs, Blk w6 g t cs → g ≠ gx → Blk (((((((((wa.setCell ⟨gx, 0, none⟩ (.int .i64 (tickD D).id)).setCell ⟨gx, 1, none⟩ (.int .i64 (tickD D).nodes)).setCell ⟨gx, 2, none⟩ (.int .i64 (tickD D).next)).setCell ⟨gx, 3, none⟩ (.slice P8.op.A P8.op.n P8.op.c)).setCell ⟨gx, 4, none⟩ (.int .i64 (tickD D).age)).setCell ⟨gx, 5, none⟩ (.int .i64 (tickD D).clock)).setCell ⟨gx, 6, none⟩ (.slice P8.wa.A P8.wa.n P8.wa.c)).setCell ⟨gx, 7, none⟩ (.slice P8.he.A P8.he.n P8.he.c)).setCell ⟨gx, 8, none⟩ (.slice P8.re.A P8.re.n P8.re.c)) g t cs := fun g t cs h hne => (h.up hba).sets9 hne (.int .i64 (tickD D).id) (.int .i64 (tickD D).nodes) (.int .i64 (tickD D).next) (.slice P8.op.A P8.op.n P8.op.c) (.int .i64 (tickD D).age) (.int .i64 (tickD D).clock) (.slice P8.wa.A P8.wa.n P8.wa.c) (.slice P8.he.A P8.he.n P8.he.c) (.slice P8.re.A P8.re.n P8.re.c)
    have hbWw := belw_sets9 (g := gx) (bel_trans hbB hba) (by omega) (.int .i64 (tickD D).id) (.int .i64 (tickD D).nodes) (.int .i64 (tickD D).next) (.slice P8.op.A P8.op.n P8.op.c) (.int .i64 (tickD D).age) (.int .i64 (tickD D).clock) (.slice P8.wa.A P8.wa.n P8.wa.c) (.slice P8.he.A P8.he.n P8.he.c) (.slice P8.re.A P8.re.n P8.re.c)
    have hBW : w6.heap.size ≤ (((((((((wa.setCell ⟨gx, 0, none⟩ (.int .i64 (tickD D).id)).setCell ⟨gx, 1, none⟩ (.int .i64 (tickD D).nodes)).setCell ⟨gx, 2, none⟩ (.int .i64 (tickD D).next)).setCell ⟨gx, 3, none⟩ (.slice P8.op.A P8.op.n P8.op.c)).setCell ⟨gx, 4, none⟩ (.int .i64 (tickD D).age)).setCell ⟨gx, 5, none⟩ (.int .i64 (tickD D).clock)).setCell ⟨gx, 6, none⟩ (.slice P8.wa.A P8.wa.n P8.wa.c)).setCell ⟨gx, 7, none⟩ (.slice P8.he.A P8.he.n P8.he.c)).setCell ⟨gx, 8, none⟩ (.slice P8.re.A P8.re.n P8.re.c)).heap.size := by have h2 := hba.size; simp [World.setCell]; exact h2
    obtain ⟨W, hW⟩ : ∃ W, W = (((((((((wa.setCell ⟨gx, 0, none⟩ (.int .i64 (tickD D).id)).setCell ⟨gx, 1, none⟩ (.int .i64 (tickD D).nodes)).setCell ⟨gx, 2, none⟩ (.int .i64 (tickD D).next)).setCell ⟨gx, 3, none⟩ (.slice P8.op.A P8.op.n P8.op.c)).setCell ⟨gx, 4, none⟩ (.int .i64 (tickD D).age)).setCell ⟨gx, 5, none⟩ (.int .i64 (tickD D).clock)).setCell ⟨gx, 6, none⟩ (.slice P8.wa.A P8.wa.n P8.wa.c)).setCell ⟨gx, 7, none⟩ (.slice P8.he.A P8.he.n P8.he.c)).setCell ⟨gx, 8, none⟩ (.slice P8.re.A P8.re.n P8.re.c)) := ⟨_, rfl⟩
    rw [← hW] at hsx hO8w hM8w hM5w htk hblk hbWw hBW ⊢
    clear hW
    have l1 := HG1.out.lt
    have l3 := HG3.out.lt
    have lq := HQ6.out.lt
    have hli := HGi.out.lt
    have hwB := hbB.size
    have hbg : BigD (tickD D) := ⟨HS.out.op, HS.out.wa, HS.out.he, HS.out.re⟩
    have hR8 := hO8w.work hbg
    have hmsL := tickL_bigs D HMH.out.2 (Nat.le_trans HN.out (by decide)) hn16
    obtain ⟨A1, c1, e1, hr1, _⟩ := OwnMs.msgs ⟨ls, hM8w⟩ hmsL
    obtain ⟨A2, c2, e2, hr2, _⟩ := OwnMs.msgs ⟨us, hM5w⟩ hmsL
    injection e1 with ea1 eb1 ec1
    injection e2 with ea2 eb2 ec2
    rw [← ea1, ← eb1] at hr1
    rw [← ea2, ← eb2] at hr2
    have hrm : RowM W w6.heap.size ⟨lA, ln, lc⟩ := msgs_rowM (s := ⟨lA, ln, lc⟩) hM8w (fun x hx => tickL_mil D HMH.out.1 x hx)
    have hln : ln ≤ 1000000 := by rw [eb1]; have := tickL_len D hn16; have := HN.out; omega
    have HR1 := Lib.hid hr1
    have HR2 := Lib.hid hr2
    have HRM := Lib.hid hrm
    clear ea1 eb1 ec1 ea2 eb2 ec2 hr1 hr2 hrm
    exact step_tail w W w6.heap.size w.heap.size (w.heap.size + 1 + 1) gi gq gx P Pi P5 P8 D (tickD D) 0 uA lA un uc ln lc hK9 hbWw hwB hBW (by omega) l3 (by omega) (by omega) (by omega)
      (fun Y' hY' => ⟨H.out.up (hbWw.trans (hY'.mono hwB)), (HGO.out.tk (tk_belB htk hY') twWork).work HS.out, (hblk _ _ _ HG1.out (by omega)).below hY' l1, (hblk _ _ _ HGi.out (by omega)).below hY' hli, (hblk _ _ _ HG3.out (by omega)).below hY' l3⟩)
      (fun Y' hY' => ⟨(HO5.out.tk (tk_belB htk (hY'.mono hBW)) twWork).work hbg, (hblk _ _ _ HQ6.out (by omega)).up hY'⟩) (fun _ Y' hY' => (hblk _ _ _ HQ6.out (by omega)).below hY' lq)
      (fun Y' hY' a0 a1 a2 a3 a4 a5 a6 a7 a8 => by rw [if_pos rfl]; exact ((HO5.out.tk (tk_belB htk hY') twWork).tk (TKeep.sets9 ((hblk _ _ _ HG3.out (by omega)).below hY' l3) a0 a1 a2 a3 a4 a5 a6 a7 a8) twWork).work hbg)
      hsx hO8w hbg (by have e1 := hR8.op.1; show P8.op.n ≤ 1000000; rw [← e1]; exact HSM.out.1) (by have e1 := hR8.wa.1; rw [← e1]; exact HSM.out.2.1) (by have e1 := hR8.he.1; rw [← e1]; exact HSM.out.2.2.1) (by have e1 := hR8.re.1; rw [← e1]; exact HSM.out.2.2.2.1) HSM.out.2.2.2.2.1 HSM.out.2.2.2.2.2
      (fun Y' hY' => ref0_EqMessages lA ln lc uA un uc (tickL D) Y' (HR1.out.up hY') (by (have e3 := HR1.out.1; have e4 := HR2.out.1); exact HR2.out.up hY'))
      (fun Y' hY' hk => (law0_MessagesS ⟨lA, ln, lc⟩ w6.heap.size Y' (HRM.out.keep hk (by unfold SWork; decide)) hln (Nat.le_trans hBW hY'.size)).mono fun e w' h => ⟨h.1, h.2.1⟩)
theorem step_do8_light {w : World} {P : JScrP} {D : JScrD} (h : JScrR w P D) (hL : LightJ P D) (MP : MsgP) (SP : SlP) (a : JobD) (X : World) (hx : WorkR X P.w D.w) (hdo : wiI a.doo 11 = 8) :
    Calls Tryz.prog 21 #[P.w.val D.w, J26 MP SP a] X fun e w' => (∃ P' D', e = .returned (.tuple #[WorkP.val P' D', .bool true])) ∧ Below X.heap.size X w' :=
  (step_do8 P.w D.w MP SP a X hx ⟨by rw [h.wk.op.1]; have := hL.op; omega, ⟨by rw [h.wk.wa.1]; have := hL.wa; omega, fun x hx => by have := hL.ak x hx; omega⟩, ⟨by rw [h.wk.he.1]; have := hL.he; omega, fun x hx => by have := hL.hx x hx; omega⟩, by rw [h.wk.re.1]; have := hL.re; omega⟩ hdo (by rw [h.wk.wa.1]; have := hL.wa; omega)
    ⟨by rw [h.wk.op.1]; have := hL.op; omega, by rw [h.wk.wa.1]; have := hL.wa; omega, by rw [h.wk.he.1]; have := hL.he; omega, by rw [h.wk.re.1]; have := hL.re; omega, fun x hx => by have := hL.ak x hx; omega, fun x hx => by have := hL.hx x hx; omega⟩).mono fun e w' ⟨P', D', h3, h4, h5⟩ => ⟨⟨P', D', h3⟩, h5⟩
set_option maxRecDepth 100000 in
set_option maxHeartbeats 2000000 in
theorem law_WorkerTicks (P : JScrP) (D : JScrD) (w : World) (h : JScrR w P D) :
    Calls Tryz.prog 6 #[P.val D] w fun e w' => e = .returned (.bool true) ∧ Below w.heap.size w w' := by
  have H := Lib.hid h
  clear h
  show Calls Tryz.prog 6 #[.agg #[.int .i64 D.w.id, .int .i64 D.w.nodes, .int .i64 D.w.next, .slice P.w.op.A P.w.op.n P.w.op.c, .int .i64 D.w.age, .int .i64 D.w.clock, .slice P.w.wa.A P.w.wa.n P.w.wa.c, .slice P.w.he.A P.w.he.n P.w.he.c, .slice P.w.re.A P.w.re.n P.w.re.c, .slice P.l.A P.l.n P.l.c]] w _
  go_enter Tryz.func6, Tryz.ntmps6
  go_wp2_with fail
  have hbX : Below w.heap.size w (w.alloc (.cells #[.int .i64 D.w.id, .int .i64 D.w.nodes, .int .i64 D.w.next, .slice P.w.op.A P.w.op.n P.w.op.c, .int .i64 D.w.age, .int .i64 D.w.clock, .slice P.w.wa.A P.w.wa.n P.w.wa.c, .slice P.w.he.A P.w.he.n P.w.he.c, .slice P.w.re.A P.w.re.n P.w.re.c, .slice P.l.A P.l.n P.l.c] 30)) := by (repeat (first | (with_reducible exact Below.refl _ _) | (with_reducible assumption) | (with_reducible apply bel_alloc) | (with_reducible apply bel_drew) | (with_reducible apply bel_drewN) | (with_reducible refine bel_trans ?_ (by with_reducible assumption)) | (with_reducible refine bel_trans ?_ (HF.out _)) | (with_reducible refine bel_set ?_ (by simp) _) | (with_reducible refine bel_set ?_ (by simp; omega) _) | (with_reducible refine bel_set ?_ (by omega) _)))
  refine (law13_only P D 8 _ (H.out.up hbX) (fun MP SP a X hX hL ham hM hI => step_do8_light H.out hL MP SP { a with doo := 8 } X ((H.out.wk.up hbX).up hX) (show wiI 8 11 = 8 by decide))).mono ?_
  rintro e w1 ⟨rfl, hb1⟩
  go_wp2_with fail
  go_ret
  exact ⟨rfl, bel_trans hbX hb1⟩
end Go.Proofs.YtgfakefcmbpboaaGreat
