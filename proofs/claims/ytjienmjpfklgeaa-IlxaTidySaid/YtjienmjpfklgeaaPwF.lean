/-
  How operations on uint64 answer on bits, plainly.
-/
import Derived.Test.YtjienmjpfklgeaaBitsP
import Derived.Laws.ShiftsVarLaws
namespace Go.Proofs.Ytjienmjpfklgeaa
open Go.RowKit
attribute [local irreducible] pw hasBit withBit woBit mems ofN withI anyN anyAt anyR

theorem and_one (s n : Nat) (hs : s < 18446744073709551616) : bits .and .u64 ((s / pw n : Nat) : Int) 1 = ((s / pw n % 2 : Nat) : Int) := by
  have h1 : s / pw n < 18446744073709551616 := Nat.lt_of_le_of_lt (Nat.div_le_self _ _) hs
  rw [show (1 : Int) = ((1 : Nat) : Int) from rfl, u64_and_nat _ 1 h1 (by omega), Nat.and_one_is_mod]
theorem shr_pw (s n : Nat) : (s : Int) / 2 ^ n = ((s / pw n : Nat) : Int) := by
  rw [Int.natCast_ediv, pw, Int.natCast_pow]; rfl
theorem has_form (s n : Nat) (hs : s < 18446744073709551616) : (bits .and .u64 ((s : Int) / 2 ^ n) 1 == 1) = hasBit s n := by
  rw [shr_pw, and_one s n hs]
  unfold hasBit
  rw [Bool.eq_iff_iff]; simp; omega
theorem one_form (n : Nat) (hn : n ≤ 63) : IntKind.u64.wrap ((2 : Int) ^ n) = (pw n : Int) := by
  have h := pw_le hn
  rw [show ((2 : Int) ^ n) = (pw n : Int) by rw [pw, Int.natCast_pow]; rfl, IntKind.wrap_u64]; omega
theorem ret_u64 {a b : Int} (h : a = b) : Ending.returned (.int .u64 a) = .returned (.int .u64 b) := by rw [h]
theorem pw_lt64 {n : Nat} (hn : n ≤ 63) : pw n < 18446744073709551616 := by have := pw_le hn; omega
theorem or_zero64 (s : Nat) (hs : s < 18446744073709551616) : bits .or .u64 (s : Int) 0 = (s : Int) := by
  rw [show (0 : Int) = ((0 : Nat) : Int) from rfl, u64_or_nat s 0 hs (by omega), Nat.or_zero]
theorem andNot_zero64 (s : Nat) (hs : s < 18446744073709551616) : bits .andNot .u64 (s : Int) 0 = (s : Int) := by
  rw [show (0 : Int) = ((0 : Nat) : Int) from rfl, u64_andNot_nat s 0 hs (by omega)]
  have : s &&& (18446744073709551615 - 0) = s := by
    rw [show 18446744073709551615 - 0 = 2 ^ 64 - 1 by omega, Nat.and_two_pow_sub_one_eq_mod]; omega
  rw [this]
theorem or_form (s n : Nat) (hn : n ≤ 63) (hs : s < 18446744073709551616) : bits .or .u64 (s : Int) (pw n : Int) = ((withBit s n : Nat) : Int) := by
  rw [u64_or_nat s (pw n) hs (pw_lt64 hn), withBit_or]
theorem wo_form (s n : Nat) (hn : n ≤ 63) (hs : s < 18446744073709551616) : bits .andNot .u64 (s : Int) (pw n : Int) = ((woBit s n : Nat) : Int) := by
  rw [u64_andNot_nat s (pw n) hs (pw_lt64 hn), woBit_and s n hn hs]
theorem wo_sub (s n : Nat) (hs : s < 18446744073709551616) (hb : hasBit s n = true) : IntKind.u64.wrap ((s : Int) - (pw n : Int)) = ((woBit s n : Nat) : Int) := by
  have h1 : pw n ≤ s := by
    unfold hasBit at hb
    have h2 : s / pw n % 2 = 1 := of_decide_eq_true hb
    refine Nat.le_of_not_lt fun h => ?_
    rw [Nat.div_eq_of_lt h] at h2
    exact absurd h2 (by decide)
  rw [woBit, hb, if_pos rfl, IntKind.wrap_u64]; omega
theorem first_form (n : Nat) (hn : n ≤ 63) : IntKind.u64.wrap ((pw n : Int) - 1) = ((pw n - 1 : Nat) : Int) := by
  have := pw_lt64 hn
  have := pw_pos n
  rw [IntKind.wrap_u64]; omega
end Go.Proofs.Ytjienmjpfklgeaa
