/- Within. -/
import Derived.Test.YtffoglofijffpaaNt
import Derived.Laws.BytesArg
namespace Go.Proofs.Ytffoglofijffpaa
open Go.RowKit
set_option linter.unusedSimpArgs false
set_option linter.unusedVariables false

def wiB (i : Int) (n : Nat) : Nat := (i % 18446744073709551616).toNat % n
theorem wiB_lt (i : Int) {n : Nat} (h : 0 < n) : wiB i n < n := Nat.mod_lt _ h
set_option maxRecDepth 100000 in
set_option maxHeartbeats 1000000 in
theorem law0_Within (i : Int) (n y : Nat) (w : World) (h : 0 < n) (h2 : n ≤ 1000) (hy : wiB i n = y) : Calls Try.prog 20 #[.int .i64 i, .int .i64 (n : Int)] w fun e w' => e = .returned (.int .i64 (y : Int)) ∧ w = w' := by
  have hyn : y < n := by rw [← hy]; exact wiB_lt i h
  have HY := Lib.hid hy
  clear hy
  go_enter Try.func20, Try.ntmps20
  have e1 : wrap64 ((IntKind.u64.wrap i).tmod (n : Int)) = (y : Int) := by
    rw [IntKind.wrap_u64]
    obtain ⟨u, hu⟩ : ∃ u : Nat, i % 18446744073709551616 = (u : Int) := ⟨(i % 18446744073709551616).toNat, by omega⟩
    have hY := HY.out
    unfold wiB at hY
    rw [hu] at hY ⊢
    rw [Int.toNat_natCast] at hY
    rw [show ((u : Int).tmod (n : Int)) = ((u % n : Nat) : Int) from (Int.ofNat_tmod u n).symm, hY]
    unfold wrap64
    omega
  have HE := Lib.hid e1
  clear e1
  go_wp2_with fail
  go_ret
  exact ⟨ret_int HE.out, rfl⟩
/-- A key of one letter. -/
def keyK (k : Nat) : ByteArray := strOfNums [97 + (k : Int)]
theorem run_key (w : World) (b s2 : Nat) (h : w.cell? ⟨b, 0, none⟩ = some (.int .u8 (97 + (s2 : Int)))) :
    (convert 45 9 (.slice (some ⟨b, 0, none⟩) 1 1)).run Try.prog w = .ok (.string (keyK s2)) w :=
  run_convert_bytes_arg w 45 5 Try.underlying45 Try.underlying5 b 0 1 1 [97 + (s2 : Int)] rfl (fun i hi => by
    obtain rfl : i = 0 := by omega
    simpa using h) 9 Try.underlying9
theorem keyK_size (k : Nat) : (keyK k).size = 1 := by simp [keyK, strOfNums, ByteArray.size]
theorem keyK_inj {j k : Nat} (hj : j < 5) (hk : k < 5) (h : keyK j = keyK k) : j = k := by
  have : ∀ a b : Fin 5, keyK a.val = keyK b.val → a = b := by decide +kernel
  have h2 := this ⟨j, hj⟩ ⟨k, hk⟩ h
  exact congrArg Fin.val h2
end Go.Proofs.Ytffoglofijffpaa
