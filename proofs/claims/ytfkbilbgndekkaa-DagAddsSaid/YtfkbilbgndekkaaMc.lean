/- A whole row of certificates appended to one's own. -/
import Derived.Test.YtfkbilbgndekkaaKm
namespace Go.Proofs.Ytfkbilbgndekkaa
open Go.RowKit
set_option linter.unusedSimpArgs false
set_option linter.unusedVariables false

theorem rowCells_size : ∀ {ps : List CertP} {l : List CertD}, ps.length = l.length → (rowCells ps l).length = l.length * 6
  | [], [], _ => rfl
  | p :: ps, C :: l, h => by
    have ih := rowCells_size (ps := ps) (l := l) (by simpa using h)
    unfold rowCells at ih ⊢
    simp only [List.zipWith_cons_cons, List.flatten_cons, List.length_append, List.length_cons, ih, certCells_len]
    omega
theorem step_appCs {ops : Array Oper} {o : Oper} {a : Act} {w : World} {K : Act → World → Prop} {Q : Exit → Act → World → Prop} {E : Prop} (hg : o.guard = none) (s x : Operand)
    (ho : o.op = .call { callee := .builtin .append, args := #[s, x], argTypes := #[22, 22] })
    (B : Nat) (v : Value) (ps : List CertP) (l : List CertD) (hs : a.eval s = v) (hown : OwnC w B v ps l) (b off m c : Nat) (qs : List CertP) (l2 : List CertD) (hx : a.eval x = .slice (some ⟨b, off, none⟩) m c) (hq : qs.length = l2.length) (hm : l2.length = m)
    (hc : ∀ j u, (rowCells qs l2)[j]? = some u → w.cell? ⟨b, off + j, none⟩ = some u) (hA : ∀ j, j < l2.length → CertA v.ownBlock w (qs.getD j default) (cth l2 j) ∧ CertNew B (qs.getD j default))
    (hlen : l.length ≤ 100000000) (hlen2 : l2.length ≤ 100000000) (hB : B ≤ w.heap.size)
    (h : ∀ v' w', OwnC w' B v' (ps ++ qs) (l ++ l2) → Below B w w' → K (a.put o.dst v') w') : if Region.wanted o (yielded ops a.tmps) = true then Oper.wp Try.prog o a w K Q else E := by
  have hw : Region.wanted o (yielded ops a.tmps) = true := by simp [Region.wanted, hg]
  rw [if_pos hw]
  subst hm
  obtain ⟨i0, hi, hz, hz1, hz2⟩ := info_parts cert_info
  obtain ⟨v', w', hrun, h2, h3, _, h5⟩ := run_append_own_at (P := Try.prog) w B 22 o.type 48 i0 _ 6 96 Try.underlying22 hi hz hz1 hz2 rfl (by omega) v l.length (rowCells ps l) hown.1 ⟨b, off, none⟩ l2.length c (rowCells qs l2) (rowCells_size hq)
    (by intro j u hu; rw [Addr.add_lit]; exact hc j u hu) (rowCells_ones qs l2) (by simp only [maxLen]; omega) (by omega) hB
  have hown' : OwnC w' B v' (ps ++ qs) (l ++ l2) := by
    refine ⟨by rw [rowCells_app hown.2.1]; simpa using h2, by simp [hown.2.1, hq], fun j hj => ?_⟩
    rcases Nat.lt_or_ge j l.length with hj' | hj'
    · have e1 : (ps ++ qs).getD j default = ps.getD j default := by simp [List.getElem?_append, hown.2.1, hj']
      have e2 : cth (l ++ l2) j = cth l j := by simp [cth, List.getElem?_append, hj']
      rw [e1, e2]
      exact ⟨(hown.2.2 j hj').1.grow h3 h5, (hown.2.2 j hj').2⟩
    · have hj2 : j - l.length < l2.length := by simp at hj; omega
      have e1 : (ps ++ qs).getD j default = qs.getD (j - l.length) default := by simp [List.getElem?_append, hown.2.1, Nat.not_lt.2 hj']
      have e2 : cth (l ++ l2) j = cth l2 (j - l.length) := by simp [cth, List.getElem?_append, Nat.not_lt.2 hj']
      rw [e1, e2]
      exact ⟨(hA _ hj2).1.grow h3 h5, (hA _ hj2).2⟩
  have hbel : Below B w w' := ⟨h3.os, h3.tape, h3.output, h3.size, fun k hk => h3.block k (by omega) (fun e => by have := (hown.lt k e.symm).1; omega)⟩
  exact Lib.wp_append_run w s x _ _ ho v _ hs hx v' w' hrun (h v' w' hown' hbel)
end Go.Proofs.Ytfkbilbgndekkaa
