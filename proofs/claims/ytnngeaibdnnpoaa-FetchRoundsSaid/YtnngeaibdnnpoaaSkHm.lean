/- Fetch: the messages that are asked, as plain lists; pieces of a list of numbers. -/
import Derived.Test.YtnngeaibdnnpoaaSkHb
import Derived.Test.YtnngeaibdnnpoaaSkHc
import Derived.Test.YtnngeaibdnnpoaaSkWsn
namespace Go.Proofs.Ytnngeaibdnnpoaa
open Go.RowKit
set_option linter.unusedSimpArgs false
set_option linter.unusedVariables false

def fMk (k id tt : Int) (ds : List Int) : MsgD := ⟨k, id, tt, 0, ⟨0, 0, []⟩, ⟨0, 0, [], []⟩, ⟨⟨0, 0, [], []⟩, 0, []⟩, ds⟩
def fMp (s : SlP) : MsgP := ⟨⟨none, 0, 0⟩, ⟨⟨none, 0, 0⟩, ⟨none, 0, 0⟩⟩, ⟨⟨⟨none, 0, 0⟩, ⟨none, 0, 0⟩⟩, ⟨none, 0, 0⟩⟩, s⟩
theorem fOwn {w : World} {B : Nat} {s : SlP} {ds : List Int} (k id tt : Int) (h : OwnI w B s.v ds) : OwnM w B (fMp s) (fMk k id tt ds) := ⟨OwnX.nil _ _, OwnI.nil _ _, OwnI.nil _ _, OwnI.nil _ _, OwnI.nil _ _, OwnI.nil _ _, h⟩
theorem nmI {w : World} {B n : Nat} {v : Value} {l : List Int} (h : OwnI w B v l) (hn : l.length = n) (hl : n ≤ 9223372036854775807) : ∃ A c, v = .slice A n c ∧ IntsR w A n l := by
  obtain ⟨A, c, e, h1, _⟩ := h.ints (by omega)
  rw [hn] at e h1
  exact ⟨A, c, e, h1⟩
theorem fBig {k id tt : Int} {ds : List Int} (h : ds.length ≤ 800000000) : BigM (fMk k id tt ds) := ⟨by simp [fMk], by simp [fMk], by simp [fMk], by simp [fMk], by simp [fMk], by simp [fMk], h⟩
def dsel (id nodes k tt : Int) (l : List FRowD) : List Int := (l.filter fun r => decide (r.ki = k ∧ peerI id nodes r.tr = tt)).map (·.di)
theorem dsel_snoc (id nodes k tt : Int) (l : List FRowD) (j : Nat) (h : j < l.length) : dsel id nodes k tt (l.take (j + 1)) = dsel id nodes k tt (l.take j) ++ if (qth l j).ki = k ∧ peerI id nodes (qth l j).tr = tt then [(qth l j).di] else [] := by
  unfold dsel
  rw [take_qth l j h, List.filter_append, List.map_append]
  congr 1
  by_cases hc : (qth l j).ki = k ∧ peerI id nodes (qth l j).tr = tt <;> simp [hc]
theorem dsel_len (id nodes k tt : Int) (l : List FRowD) : (dsel id nodes k tt l).length ≤ l.length := by
  unfold dsel; rw [List.length_map]; exact List.length_filter_le _ _
def chM (k id tt : Int) (d : List Int) (j : Nat) : List MsgD := (List.range j).map fun i => fMk k id tt ((d.drop (i * 16)).take 16)
theorem chM_succ (k id tt : Int) (d : List Int) (j : Nat) : chM k id tt d (j + 1) = chM k id tt d j ++ [fMk k id tt ((d.drop (j * 16)).take 16)] := by simp [chM, List.range_succ]
def fS (id nodes : Int) (l : List FRowD) (k tt : Int) : List MsgD := chM k id tt (dsel id nodes k tt l) (((dsel id nodes k tt l).length + 15) / 16)
def fN (id nodes : Int) (l : List FRowD) : Nat → List MsgD
  | 0 => []
  | s + 1 => fN id nodes l s ++ fS id nodes l (7 + ((s % 2 : Nat) : Int)) (((s / 2 : Nat) : Int) + 1)
def fL (id nodes : Int) (l : List FRowD) : List MsgD := if nodes = 1 then [] else fN id nodes l (2 * nodes.toNat)
theorem fS_len (id nodes : Int) (l : List FRowD) (k tt : Int) (hl : l.length ≤ 64) : (fS id nodes l k tt).length ≤ 5 := by
  have := dsel_len id nodes k tt l
  simp [fS, chM]; omega
theorem fN_len (id nodes : Int) (l : List FRowD) (hl : l.length ≤ 64) : ∀ s, (fN id nodes l s).length ≤ 5 * s
  | 0 => by simp [fN]
  | s + 1 => by
    have h1 := fN_len id nodes l hl s
    have h2 := fS_len id nodes l (7 + ((s % 2 : Nat) : Int)) (((s / 2 : Nat) : Int) + 1) hl
    rw [fN, List.length_append]; omega
theorem fN_big (id nodes : Int) (l : List FRowD) (hl : l.length ≤ 64) : ∀ s, ∀ x ∈ fN id nodes l s, BigM x
  | 0, x, h => by simp [fN] at h
  | s + 1, x, h => by
    rw [fN, List.mem_append] at h
    rcases h with h | h
    · exact fN_big id nodes l hl s x h
    · simp only [fS, chM, List.mem_map, List.mem_range] at h
      obtain ⟨i, _, rfl⟩ := h
      exact fBig (by simp; omega)
theorem fL_big (id nodes : Int) (l : List FRowD) (hl : l.length ≤ 64) (hn : nodes ≤ 16) : BigMs (fL id nodes l) := by
  unfold fL
  split
  · exact ⟨by simp, fun x h => by simp at h⟩
  · exact ⟨by have := fN_len id nodes l hl (2 * nodes.toNat); omega, fN_big id nodes l hl _⟩
theorem IntsR.piece {w : World} {b off m i : Nat} {d : List Int} (h : IntsR w (some ⟨b, off, none⟩) m d) (hi : i * 16 < m) : IntsR w (some ⟨b, off + i * 16, none⟩) (min 16 (m - i * 16)) ((d.drop (i * 16)).take 16) := by
  obtain ⟨h1, h2, h3⟩ := h
  refine ⟨by rw [List.length_take, List.length_drop, h1], by omega, fun _ => ?_⟩
  obtain ⟨b', off', e, hb, hc⟩ := h3 (by omega)
  injection e with e
  injection e with e1 e2 _
  subst e1; subst e2
  refine ⟨b, off + i * 16, rfl, hb, fun j hj => ?_⟩
  rw [Nat.add_assoc, hc (i * 16 + j) (by omega)]
  have : nth ((d.drop (i * 16)).take 16) j = nth d (i * 16 + j) := by
    unfold nth
    rw [List.getD_eq_getElem?_getD, List.getD_eq_getElem?_getD, List.getElem?_take_of_lt (by omega), List.getElem?_drop]
  rw [this]
theorem row_cell {w : World} {B K b off m : Nat} {v : Value} (h : w.ownsRow B 31 1 v K ((pcs b off m K).map encL)) (hK : 0 < K) (hKm : K ≤ 1000) :
    ∃ g o c, v = .slice (some ⟨g, o, none⟩) K c ∧ g < w.heap.size ∧ ∀ j, j < K → w.cell? ⟨g, o + j, none⟩ = some (.slice (some ⟨b, off + j * 16, none⟩) (min 16 (m - j * 16)) (min 16 (m - j * 16))) := by
  obtain ⟨A, c, e, hr, -, -, -⟩ := own_row h (by omega)
  obtain ⟨g, o, eA, hg, hc⟩ := hr.2.2 hK
  subst eA
  refine ⟨g, o, c, e, hg, fun j hj => hc j _ ?_⟩
  rw [List.getElem?_map, pcs, List.getElem?_map, List.getElem?_range hj]
  rfl
end Go.Proofs.Ytnngeaibdnnpoaa
