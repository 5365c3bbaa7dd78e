/-
  Walks of the statements InputsSides, InputsSame, InputsRight of chapter 9.
-/
import Derived.Test.YtgepflelaemmnaaInWorks
namespace Go.Proofs.Ytgepflelaemmnaa
open Go.RowKit

theorem u8_nat {a : Int} (h : (Lit.int .u8 a).wf = true) : ∃ n : Nat, a = n ∧ n < 256 := by have := bounds_u8 h; exact ⟨a.toNat, by omega, by omega⟩
theorem u32_nat {a : Int} (h : (Lit.int .u32 a).wf = true) : ∃ n : Nat, a = n ∧ n < 4294967296 := by have := bounds_u32 h; exact ⟨a.toNat, by omega, by omega⟩
theorem u64_nat {a : Int} (h : (Lit.int .u64 a).wf = true) : ∃ n : Nat, a = n ∧ n < 18446744073709551616 := by have := bounds_u64 h; exact ⟨a.toNat, by omega, by omega⟩

theorem apart_zero (n r : Nat) (hn : n < 2 ^ 32) (hr : r < 2 ^ 32) : (n &&& (2 ^ 32 - (r + 1))) &&& (r &&& (2 ^ 32 - (n + 1))) = 0 := by
  refine Nat.eq_of_testBit_eq fun i => ?_
  simp only [Nat.testBit_and, Nat.testBit_two_pow_sub_succ hn, Nat.testBit_two_pow_sub_succ hr, Nat.zero_testBit]
  cases n.testBit i <;> cases r.testBit i <;> simp
theorem sides_apart (n r : Nat) (hn : n < 4294967296) (hr : r < 4294967296) : bits .and .u32 (bits .andNot .u32 (n : Int) (r : Int)) (bits .andNot .u32 (r : Int) (n : Int)) = 0 := by
  have h1 : n &&& (4294967295 - r) ≤ n := Nat.and_le_left
  have h2 : r &&& (4294967295 - n) ≤ r := Nat.and_le_left
  rw [u32_andNot_nat n r hn hr, u32_andNot_nat r n hr hn, u32_and_nat _ _ (by omega) (by omega)]
  have := apart_zero n r hn hr
  rw [show 4294967295 - r = 2 ^ 32 - (r + 1) by omega, show 4294967295 - n = 2 ^ 32 - (n + 1) by omega, this]; rfl

set_option maxHeartbeats 1000000 in
theorem walk_InputsSides (a0 a1 : Int) (w : World) (w0 : (Lit.int .u32 a0).wf = true) (w1 : (Lit.int .u32 a1).wf = true) :
    Calls Try.prog 5 #[.int .u32 a0, .int .u32 a1] w fun e w' => e = .returned (.bool true) ∧ Below w.heap.size w w' := by
  obtain ⟨n, rfl, hn⟩ := u32_nat w0
  obtain ⟨r, rfl, hr⟩ := u32_nat w1
  have hz := sides_apart n r hn hr
  clear w0 w1 hn hr
  go_enter Try.func5, Try.ntmps5
  go_wp2_with fail
  refine (sides_any 0 n r none 0 0 _).mono ?_
  rintro e w1 ⟨rfl, hb1⟩
  go_wp2_with fail
  refine (refsides_any 0 n r none 0 0 _).mono ?_
  rintro e w2 ⟨rfl, hb2⟩
  go_wp2_with fail
  refine (works_any _).mono ?_
  rintro e w3 ⟨rfl, hb3⟩
  go_wp2_with fail
  go_ret
  exact ⟨rfl, below_on (below_on hb1 hb2) hb3⟩
end Go.Proofs.Ytgepflelaemmnaa
