/-
  Walks of package inputs.
-/
import Derived.Test.YtgepflelaemmnaaProg
import Derived.Test.YtgepflelaemmnaaRead
import Derived.RegionTactic
import Derived.Deep.QuietTactic
import Derived.BigQuiet
namespace Go.Proofs.Ytgepflelaemmnaa
open Go.RowKit

theorem within_div (x m : Nat) : (x : Int) / 2 ^ m / 2 = 0 ↔ x < 2 ^ (m + 1) := by
  have e : (x : Int) / 2 ^ m / 2 = ((x / 2 ^ m / 2 : Nat) : Int) := by norm_cast
  rw [e, Nat.div_div_eq_div_mul, ← Nat.pow_succ]
  constructor
  · intro h
    have h2 : x / 2 ^ (m + 1) = 0 := Int.ofNat.inj h
    exact (Nat.div_eq_zero_iff_lt (Nat.two_pow_pos _)).1 h2
  · intro h
    rw [Nat.div_eq_of_lt h]; rfl
theorem within_eq (x m : Nat) : ((x : Int) / 2 ^ m / 2 == 0 || (x : Int) == 0) = decide (x < 2 ^ (m + 1)) := by
  rw [Bool.eq_iff_iff, Bool.or_eq_true, beq_iff_eq, beq_iff_eq, within_div, decide_eq_true_iff]
  constructor
  · rintro (h | h)
    · exact h
    · have : x = 0 := by omega
      rw [this]; exact Nat.two_pow_pos _
  · exact .inl

theorem within64_any (x n : Nat) (w : World) (hn : n ≤ 64) :
    Calls Try.prog 20 #[.int .u64 x, .int .i64 n] w fun e w' => e = .returned (.bool (decide (x < 2 ^ n))) ∧ w = w' := by
  by_cases h0 : 0 < n
  · obtain ⟨m, rfl⟩ : ∃ m, n = m + 1 := ⟨n - 1, by omega⟩
    have HW := Lib.hid (within_eq x m)
    have HD := Lib.hid (within_div x m)
    go_enter Try.func20, Try.ntmps20
    go_wp2
    · have h1 : (x : Int) / 2 ^ m / 2 = 0 := by assumption
      go_ret
      exact ⟨ret_bool (by rw [decide_eq_true (HD.out.1 h1)]), rfl⟩
    · have h1 : ¬ (x : Int) / 2 ^ m / 2 = 0 := by assumption
      go_ret
      exact ⟨ret_bool HW.out, rfl⟩
  · obtain rfl : n = 0 := by omega
    have HW : Hid (((x : Int) == 0) = decide (x < 2 ^ 0)) := Lib.hid (by rw [Bool.eq_iff_iff]; simp)
    go_enter Try.func20, Try.ntmps20
    go_wp2
    all_goals go_ret
    all_goals exact ⟨ret_bool HW.out, rfl⟩

theorem within32_any (x n : Nat) (w : World) (hn : n ≤ 32) :
    Calls Try.prog 21 #[.int .u32 x, .int .i64 n] w fun e w' => e = .returned (.bool (decide (x < 2 ^ n))) ∧ w = w' := by
  by_cases h0 : 0 < n
  · obtain ⟨m, rfl⟩ : ∃ m, n = m + 1 := ⟨n - 1, by omega⟩
    have HW := Lib.hid (within_eq x m)
    have HD := Lib.hid (within_div x m)
    go_enter Try.func21, Try.ntmps21
    go_wp2
    · have h1 : (x : Int) / 2 ^ m / 2 = 0 := by assumption
      go_ret
      exact ⟨ret_bool (by rw [decide_eq_true (HD.out.1 h1)]), rfl⟩
    · have h1 : ¬ (x : Int) / 2 ^ m / 2 = 0 := by assumption
      go_ret
      exact ⟨ret_bool HW.out, rfl⟩
  · obtain rfl : n = 0 := by omega
    have HW : Hid (((x : Int) == 0) = decide (x < 2 ^ 0)) := Lib.hid (by rw [Bool.eq_iff_iff]; simp)
    go_enter Try.func21, Try.ntmps21
    go_wp2
    all_goals go_ret
    all_goals exact ⟨ret_bool HW.out, rfl⟩


end Go.Proofs.Ytgepflelaemmnaa
