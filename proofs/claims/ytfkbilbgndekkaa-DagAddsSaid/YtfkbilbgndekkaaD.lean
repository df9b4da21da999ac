/- Looking for a digest, among certificates and among numbers. -/
import Derived.Test.YtfkbilbgndekkaaC
namespace Go.Proofs.Ytfkbilbgndekkaa
open Go.RowKit
set_option linter.unusedSimpArgs false
set_option linter.unusedVariables false

/-! ### words -/
def findF (x : Int) : Int → List CertD → Int
  | _, [] => -1
  | i, c :: l => if c.di = x then i else findF x (i + 1) l
def findS (l : List CertD) (x : Int) : Int := findF x 0 l
def inF (x : Int) : Int → List Int → Int
  | _, [] => -1
  | i, c :: l => if c = x then i else inF x (i + 1) l
def inS (l : List Int) (x : Int) : Int := inF x 0 l
def hasS (l : List Int) (x : Int) : Bool := decide (0 ≤ inS l x)
theorem findF_step (x : Int) (l : List CertD) (k : Nat) (h : k < l.length) : findF x k (l.drop k) = if (cth l k).di = x then (k : Int) else findF x ((k + 1 : Nat) : Int) (l.drop (k + 1)) := by
  rw [drop_cth l k h, findF]; simp
theorem inF_step (x : Int) (l : List Int) (k : Nat) (h : k < l.length) : inF x k (l.drop k) = if nth l k = x then (k : Int) else inF x ((k + 1 : Nat) : Int) (l.drop (k + 1)) := by
  rw [drop_nth l k h, inF]; simp

set_option maxRecDepth 100000 in
set_option maxHeartbeats 1000000 in
theorem ref14_Find (A : Option Addr) (n c : Nat) (l : List CertD) (nodes low x : Int) (w : World) (hl : CertsR w A n l) :
    Calls Try.prog 18 #[.agg #[.int .i64 nodes, .int .i64 low, .slice A n c], .int .i64 x] w fun e w' => e = .returned (.int .i64 (findS l x)) ∧ Below w.heap.size w w' := by
  obtain ⟨h1, h2, h3⟩ := hl
  have H1 := Lib.hid h1; clear h1
  have H3 := Lib.hid h3; clear h3
  go_enter Try.func18, Try.ntmps18
  go_wp2
  go_loop [5] (fun i => ∃ k : Nat, k ≤ n ∧ i = .int .i64 k ∧ Hid (findS l x = findF x k (l.drop k))) (fun i => n - (intOf i).toNat)
  case atStart => exact ⟨0, Nat.zero_le _, rfl, rfl⟩
  case round =>
    obtain ⟨k, hk, rfl, hr⟩ := hrel
    by_cases hlt : k < n
    · obtain ⟨b, off, rfl, hb, hc⟩ := H3.out (by omega)
      obtain ⟨p, hat, _⟩ := hc k hlt
      have hck := hat.2.2.2.2.1
      clear hc hat
      have HS := Lib.hid (findF_step x l k (by rw [H1.out]; exact hlt))
      go_wp2
      all_goals first
        | (go_round
           case rel => exact ⟨k + 1, by omega, by go_num, by have e := hr.out; rw [HS.out, if_neg (by simpa using ‹((cth l k).di == x) = false›)] at e; exact e⟩
           case measure => simp [intOf]; omega)
        | (go_ret; exact ⟨ret_int (by rw [hr.out, HS.out, if_pos (by simpa using ‹((cth l k).di == x) = true›)]), by (repeat (first | (with_reducible exact Below.refl _ _) | (with_reducible assumption) | (with_reducible apply bel_alloc) | (with_reducible apply bel_drew) | (with_reducible apply bel_drewN) | (with_reducible refine bel_trans ?_ (by with_reducible assumption)) | (with_reducible refine bel_trans ?_ (HF.out _)) | (with_reducible refine bel_set ?_ (by simp) _) | (with_reducible refine bel_set ?_ (by simp; omega) _) | (with_reducible refine bel_set ?_ (by omega) _)))⟩)
    · go_wp2
      go_ret
      exact ⟨ret_int (by rw [hr.out, List.drop_of_length_le (by rw [H1.out]; omega)]; rfl), by (repeat (first | (with_reducible exact Below.refl _ _) | (with_reducible assumption) | (with_reducible apply bel_alloc) | (with_reducible apply bel_drew) | (with_reducible apply bel_drewN) | (with_reducible refine bel_trans ?_ (by with_reducible assumption)) | (with_reducible refine bel_trans ?_ (HF.out _)) | (with_reducible refine bel_set ?_ (by simp) _) | (with_reducible refine bel_set ?_ (by simp; omega) _) | (with_reducible refine bel_set ?_ (by omega) _)))⟩
set_option maxRecDepth 100000 in
set_option maxHeartbeats 1000000 in
theorem ref0_In (A : Option Addr) (n c : Nat) (l : List Int) (x : Int) (w : World) (hl : IntsR w A n l) :
    Calls Try.prog 30 #[.slice A n c, .int .i64 x] w fun e w' => e = .returned (.int .i64 (inS l x)) ∧ w = w' := by
  obtain ⟨h1, h2, h3⟩ := hl
  have H1 := Lib.hid h1; clear h1
  have H3 := Lib.hid h3; clear h3
  go_enter Try.func30, Try.ntmps30
  go_wp2
  go_loop [5] (fun i => ∃ k : Nat, k ≤ n ∧ i = .int .i64 k ∧ Hid (inS l x = inF x k (l.drop k))) (fun i => n - (intOf i).toNat)
  case atStart => exact ⟨0, Nat.zero_le _, rfl, rfl⟩
  case round =>
    obtain ⟨k, hk, rfl, hr⟩ := hrel
    by_cases hlt : k < n
    · obtain ⟨b, off, rfl, hb, hc⟩ := H3.out (by omega)
      have hck := hc k hlt
      clear hc
      have HS := Lib.hid (inF_step x l k (by rw [H1.out]; exact hlt))
      go_wp2
      all_goals first
        | (go_round
           case rel => exact ⟨k + 1, by omega, by go_num, by have e := hr.out; rw [HS.out, if_neg (by simpa using ‹(nth l k == x) = false›)] at e; exact e⟩
           case measure => simp [intOf]; omega)
        | (go_ret; exact ⟨ret_int (by rw [hr.out, HS.out, if_pos (by simpa using ‹(nth l k == x) = true›)]), rfl⟩)
    · go_wp2
      go_ret
      exact ⟨ret_int (by rw [hr.out, List.drop_of_length_le (by rw [H1.out]; omega)]; rfl), rfl⟩
set_option maxRecDepth 100000 in
set_option maxHeartbeats 1000000 in
theorem slices_Index (A : Option Addr) (n c : Nat) (l : List Int) (x : Int) (w : World) (hl : IntsR w A n l) :
    Calls Try.prog 141 #[.slice A n c, .int .i64 x] w fun e w' => e = .returned (.int .i64 (inS l x)) ∧ w = w' := by
  obtain ⟨h1, h2, h3⟩ := hl
  have H1 := Lib.hid h1; clear h1
  have H3 := Lib.hid h3; clear h3
  go_enter Try.func141, Try.ntmps141
  go_wp2
  go_loop [8] (fun i => ∃ k : Nat, k ≤ n ∧ i = .int .i64 k ∧ Hid (inS l x = inF x k (l.drop k))) (fun i => n - (intOf i).toNat)
  case atStart => exact ⟨0, Nat.zero_le _, rfl, rfl⟩
  case round =>
    obtain ⟨k, hk, rfl, hr⟩ := hrel
    by_cases hlt : k < n
    · obtain ⟨b, off, rfl, hb, hc⟩ := H3.out (by omega)
      have hck := hc k hlt
      clear hc
      have HS := Lib.hid (inF_step x l k (by rw [H1.out]; exact hlt))
      go_wp2
      all_goals first
        | (go_round
           case rel => exact ⟨k + 1, by omega, by go_num, by have e := hr.out; rw [HS.out, if_neg (by have := ‹(x == nth l k) = false›; simp at this; exact fun e => this e.symm)] at e; exact e⟩
           case measure => simp [intOf]; omega)
        | (go_ret; exact ⟨ret_int (by rw [hr.out, HS.out, if_pos (by have := ‹(x == nth l k) = true›; simp at this; exact this.symm)]), rfl⟩)
    · go_wp2
      go_ret
      exact ⟨ret_int (by rw [hr.out, List.drop_of_length_le (by rw [H1.out]; omega)]; rfl), rfl⟩
set_option maxRecDepth 100000 in
set_option maxHeartbeats 1000000 in
theorem dag_Get1 (p : CertP) (C : CertD) (g : Nat) (x : Int) (w : World) (hg : w.cell? ⟨g, 0, none⟩ = some (.int .i64 x)) (hgl : g < w.heap.size) :
    Calls Try.prog 104 #[.agg #[.int .i64 C.h.au, .int .i64 C.h.ro, .slice p.h.b.A p.h.b.n p.h.b.c, .slice p.h.p.A p.h.p.n p.h.p.c, .int .i64 C.di, .slice p.s.A p.s.n p.s.c], .pointer (some ⟨g, 0, none⟩)] w fun e w' => e = .returned (.bool (C.di == x)) ∧ Below w.heap.size w w' := by
  go_enter Try.func104, Try.ntmps104
  go_wp2
  go_ret
  exact ⟨rfl, by (repeat (first | (with_reducible exact Below.refl _ _) | (with_reducible assumption) | (with_reducible apply bel_alloc) | (with_reducible apply bel_drew) | (with_reducible apply bel_drewN) | (with_reducible refine bel_trans ?_ (by with_reducible assumption)) | (with_reducible refine bel_trans ?_ (HF.out _)) | (with_reducible refine bel_set ?_ (by simp) _) | (with_reducible refine bel_set ?_ (by simp; omega) _) | (with_reducible refine bel_set ?_ (by omega) _)))⟩
set_option maxRecDepth 100000 in
set_option maxHeartbeats 1000000 in
theorem slices_IndexFunc (A : Option Addr) (n c : Nat) (l : List CertD) (g : Nat) (x : Int) (w : World) (hl : CertsR w A n l) (hg : w.cell? ⟨g, 0, none⟩ = some (.int .i64 x)) (hgl : g < w.heap.size) :
    Calls Try.prog 103 #[.slice A n c, .func (.func 104) #[] #[.pointer (some ⟨g, 0, none⟩)]] w fun e w' => e = .returned (.int .i64 (findS l x)) ∧ Below w.heap.size w w' := by
  obtain ⟨h1, h2, h3⟩ := hl
  have H1 := Lib.hid h1; clear h1
  have H3 := Lib.hid h3; clear h3
  go_enter Try.func103, Try.ntmps103
  go_wp2
  go_loopw [8] (fun i wr => ∃ k : Nat, k ≤ n ∧ i = .int .i64 k ∧ Hid (findS l x = findF x k (l.drop k)) ∧ Below w.heap.size w wr) (fun i _ => n - (intOf i).toNat)
  case atStart => exact ⟨0, Nat.zero_le _, rfl, rfl, Below.refl _ _⟩
  case round =>
    obtain ⟨k, hk, rfl, hr, hbw⟩ := hrel
    by_cases hlt : k < n
    · obtain ⟨b, off, rfl, hb, hc⟩ := H3.out (by omega)
      obtain ⟨p, hat, _⟩ := hc k hlt
      obtain ⟨c0, c1, c2, c3, c4, c5⟩ := hat.up hbw hb
      have hg' := (hbw.cell (p := ⟨g, 0, none⟩) hgl).trans hg
      have hgl' : g < wr.heap.size := Nat.lt_of_lt_of_le hgl hbw.size
      clear hc hat
      have HS := Lib.hid (findF_step x l k (by rw [H1.out]; exact hlt))
      go_wp2_with (go_at_call 104; refine (dag_Get1 _ _ _ _ _ hg' hgl').mono ?_; rintro e w1 ⟨rfl, hb1⟩)
      all_goals first
        | (go_roundw
           case rel => exact ⟨k + 1, by omega, by go_num, by have e := hr.out; rw [HS.out, if_neg (by simpa using ‹((cth l k).di == x) = false›)] at e; exact e, by (repeat (first | (with_reducible exact Below.refl _ _) | (with_reducible assumption) | (with_reducible apply bel_alloc) | (with_reducible apply bel_drew) | (with_reducible apply bel_drewN) | (with_reducible refine bel_trans ?_ (by with_reducible assumption)) | (with_reducible refine bel_trans ?_ (HF.out _)) | (with_reducible refine bel_set ?_ (by simp) _) | (with_reducible refine bel_set ?_ (by simp; omega) _) | (with_reducible refine bel_set ?_ (by omega) _)))⟩
           case measure => simp [intOf]; omega)
        | (go_ret; exact ⟨ret_int (by rw [hr.out, HS.out, if_pos (by simpa using ‹((cth l k).di == x) = true›)]), by (repeat (first | (with_reducible exact Below.refl _ _) | (with_reducible assumption) | (with_reducible apply bel_alloc) | (with_reducible apply bel_drew) | (with_reducible apply bel_drewN) | (with_reducible refine bel_trans ?_ (by with_reducible assumption)) | (with_reducible refine bel_trans ?_ (HF.out _)) | (with_reducible refine bel_set ?_ (by simp) _) | (with_reducible refine bel_set ?_ (by simp; omega) _) | (with_reducible refine bel_set ?_ (by omega) _)))⟩)
    · go_wp2
      go_ret
      exact ⟨ret_int (by rw [hr.out, List.drop_of_length_le (by rw [H1.out]; omega)]; rfl), by (repeat (first | (with_reducible exact Below.refl _ _) | (with_reducible assumption) | (with_reducible apply bel_alloc) | (with_reducible apply bel_drew) | (with_reducible apply bel_drewN) | (with_reducible refine bel_trans ?_ (by with_reducible assumption)) | (with_reducible refine bel_trans ?_ (HF.out _)) | (with_reducible refine bel_set ?_ (by simp) _) | (with_reducible refine bel_set ?_ (by simp; omega) _) | (with_reducible refine bel_set ?_ (by omega) _)))⟩
set_option maxRecDepth 100000 in
set_option maxHeartbeats 1000000 in
theorem slices_Contains (A : Option Addr) (n c : Nat) (l : List Int) (x : Int) (w : World) (hl : IntsR w A n l) :
    Calls Try.prog 127 #[.slice A n c, .int .i64 x] w fun e w' => e = .returned (.bool (hasS l x)) ∧ w = w' := by
  go_enter Try.func127, Try.ntmps127
  go_wp2_with (go_at_call 141; refine (slices_Index _ _ _ l _ _ hl).mono ?_; rintro e w' ⟨rfl, rfl⟩)
  go_ret
  exact ⟨rfl, rfl⟩
set_option maxRecDepth 100000 in
set_option maxHeartbeats 1000000 in
theorem dag_Get (A : Option Addr) (n c : Nat) (l : List CertD) (nodes low x : Int) (w : World) (hl : CertsR w A n l) :
    Calls Try.prog 71 #[.agg #[.int .i64 nodes, .int .i64 low, .slice A n c], .int .i64 x] w fun e w' => e = .returned (.int .i64 (findS l x)) ∧ Below w.heap.size w w' := by
  go_enter Try.func71, Try.ntmps71
  go_wp2_with (go_at_call 103; refine (slices_IndexFunc _ _ _ l _ x _ (hl.up (by (repeat (first | (with_reducible exact Below.refl _ _) | (with_reducible assumption) | (with_reducible apply bel_alloc) | (with_reducible apply bel_drew) | (with_reducible apply bel_drewN) | (with_reducible refine bel_trans ?_ (by with_reducible assumption)) | (with_reducible refine bel_trans ?_ (HF.out _)) | (with_reducible refine bel_set ?_ (by simp) _) | (with_reducible refine bel_set ?_ (by simp; omega) _) | (with_reducible refine bel_set ?_ (by omega) _))))) (by simp) (by simp)).mono ?_; rintro e w1 ⟨rfl, hb1⟩)
  go_ret
  exact ⟨rfl, by (repeat (first | (with_reducible exact Below.refl _ _) | (with_reducible assumption) | (with_reducible apply bel_alloc) | (with_reducible apply bel_drew) | (with_reducible apply bel_drewN) | (with_reducible refine bel_trans ?_ (by with_reducible assumption)) | (with_reducible refine bel_trans ?_ (HF.out _)) | (with_reducible refine bel_set ?_ (by simp) _) | (with_reducible refine bel_set ?_ (by simp; omega) _) | (with_reducible refine bel_set ?_ (by omega) _)))⟩
end Go.Proofs.Ytfkbilbgndekkaa
