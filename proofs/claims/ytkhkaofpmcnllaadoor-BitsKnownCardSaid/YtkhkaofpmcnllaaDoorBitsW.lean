/-
  Walks of package bits: Has, one, With, Without, First; and the document's Without.
-/
import Derived.Test.YtkhkaofpmcnllaaDoorBitsP
import Derived.Laws.ShiftsVarLaws
namespace Go.Proofs.YtkhkaofpmcnllaaDoor
open Go.RowKit
attribute [local irreducible] pw hasBit withBit woBit mems ofN withI anyN anyAt anyR

theorem and_one (s n : Nat) (hs : s < 18446744073709551616) : bits .and .u64 ((s / pw n : Nat) : Int) 1 = ((s / pw n % 2 : Nat) : Int) := by
  have h1 : s / pw n < 18446744073709551616 := Nat.lt_of_le_of_lt (Nat.div_le_self _ _) hs
  rw [show (1 : Int) = ((1 : Nat) : Int) from rfl, u64_and_nat _ 1 h1 (by omega), Nat.and_one_is_mod]
theorem shr_pw (s n : Nat) : (s : Int) / 2 ^ n = ((s / pw n : Nat) : Int) := by
  rw [Int.natCast_ediv, pw, Int.natCast_pow]; rfl
theorem has_form (s n : Nat) (hs : s < 18446744073709551616) : (bits .and .u64 ((s : Int) / 2 ^ n) 1 == 1) = hasBit s n := by
  rw [shr_pw, and_one s n hs]
  unfold hasBit
  rw [Bool.eq_iff_iff]; simp; omega
theorem one_form (n : Nat) (hn : n ≤ 63) : IntKind.u64.wrap ((2 : Int) ^ n) = (pw n : Int) := by
  have h := pw_le hn
  rw [show ((2 : Int) ^ n) = (pw n : Int) by rw [pw, Int.natCast_pow]; rfl, IntKind.wrap_u64]; omega
theorem ret_u64 {a b : Int} (h : a = b) : Ending.returned (.int .u64 a) = .returned (.int .u64 b) := by rw [h]
theorem pw_lt64 {n : Nat} (hn : n ≤ 63) : pw n < 18446744073709551616 := by have := pw_le hn; omega
theorem or_zero64 (s : Nat) (hs : s < 18446744073709551616) : bits .or .u64 (s : Int) 0 = (s : Int) := by
  rw [show (0 : Int) = ((0 : Nat) : Int) from rfl, u64_or_nat s 0 hs (by omega), Nat.or_zero]
theorem andNot_zero64 (s : Nat) (hs : s < 18446744073709551616) : bits .andNot .u64 (s : Int) 0 = (s : Int) := by
  rw [show (0 : Int) = ((0 : Nat) : Int) from rfl, u64_andNot_nat s 0 hs (by omega)]
  have : s &&& (18446744073709551615 - 0) = s := by
    rw [show 18446744073709551615 - 0 = 2 ^ 64 - 1 by omega, Nat.and_two_pow_sub_one_eq_mod]; omega
  rw [this]
theorem or_form (s n : Nat) (hn : n ≤ 63) (hs : s < 18446744073709551616) : bits .or .u64 (s : Int) (pw n : Int) = ((withBit s n : Nat) : Int) := by
  rw [u64_or_nat s (pw n) hs (pw_lt64 hn), withBit_or]
theorem wo_form (s n : Nat) (hn : n ≤ 63) (hs : s < 18446744073709551616) : bits .andNot .u64 (s : Int) (pw n : Int) = ((woBit s n : Nat) : Int) := by
  rw [u64_andNot_nat s (pw n) hs (pw_lt64 hn), woBit_and s n hn hs]
theorem wo_sub (s n : Nat) (hs : s < 18446744073709551616) (hb : hasBit s n = true) : IntKind.u64.wrap ((s : Int) - (pw n : Int)) = ((woBit s n : Nat) : Int) := by
  have h1 : pw n ≤ s := by
    unfold hasBit at hb
    have h2 : s / pw n % 2 = 1 := of_decide_eq_true hb
    refine Nat.le_of_not_lt fun h => ?_
    rw [Nat.div_eq_of_lt h] at h2
    exact absurd h2 (by decide)
  rw [woBit, hb, if_pos rfl, IntKind.wrap_u64]; omega
theorem first_form (n : Nat) (hn : n ≤ 63) : IntKind.u64.wrap ((pw n : Int) - 1) = ((pw n - 1 : Nat) : Int) := by
  have := pw_lt64 hn
  have := pw_pos n
  rw [IntKind.wrap_u64]; omega
theorem bhas_out (s n : Int) (w : World) (hn : n < 0 ∨ 63 < n) :
    Calls Tryd.prog 10 #[.int .u64 s, .int .i64 n] w fun e w' => e = .returned (.bool false) ∧ w = w' := by
  rcases hn with h | h
  · go_enter Tryd.func10, Tryd.ntmps10
    go_wp2_with fail
    go_ret
    exact ⟨rfl, rfl⟩
  · have h0 : 0 ≤ n := by omega
    go_enter Tryd.func10, Tryd.ntmps10
    go_wp2_with fail
    go_ret
    exact ⟨rfl, rfl⟩
theorem bhas_any (s n : Nat) (w : World) (hn : n ≤ 63) (hs : s < 18446744073709551616) :
    Calls Tryd.prog 10 #[.int .u64 s, .int .i64 n] w fun e w' => e = .returned (.bool (hasBit s n)) ∧ w = w' := by
  have h0 : (0 : Int) ≤ n := by omega
  have HV := Lib.hid (has_form s n hs)
  clear hs
  go_enter Tryd.func10, Tryd.ntmps10
  go_wp2_with fail
  go_ret
  exact ⟨ret_bool HV.out, rfl⟩
theorem one_out (n : Int) (w : World) (hn : n < 0 ∨ 63 < n) :
    Calls Tryd.prog 31 #[.int .i64 n] w fun e w' => e = .returned (.int .u64 0) ∧ w = w' := by
  rcases hn with h | h
  · go_enter Tryd.func31, Tryd.ntmps31
    go_wp2_with fail
    go_ret
    exact ⟨rfl, rfl⟩
  · have h0 : 0 ≤ n := by omega
    go_enter Tryd.func31, Tryd.ntmps31
    go_wp2_with fail
    go_ret
    exact ⟨rfl, rfl⟩
theorem one_any (n : Nat) (w : World) (hn : n ≤ 63) :
    Calls Tryd.prog 31 #[.int .i64 n] w fun e w' => e = .returned (.int .u64 (pw n : Int)) ∧ w = w' := by
  have h0 : (0 : Int) ≤ n := by omega
  have h1 : ¬ (64 : Int) ≤ n := by omega
  go_enter Tryd.func31, Tryd.ntmps31
  go_wp2_with fail
  go_ret
  exact ⟨ret_u64 (one_form n hn), rfl⟩
theorem bwith_out (s : Nat) (n : Int) (w : World) (hn : n < 0 ∨ 63 < n) (hs : s < 18446744073709551616) :
    Calls Tryd.prog 12 #[.int .u64 s, .int .i64 n] w fun e w' => e = .returned (.int .u64 s) ∧ w = w' := by
  have h := or_zero64 s hs
  go_enter Tryd.func12, Tryd.ntmps12
  go_wp2_with fail
  refine (one_out n _ hn).mono ?_
  rintro e w' ⟨rfl, rfl⟩
  go_wp2_with fail
  go_ret
  exact ⟨rfl, rfl⟩
theorem bwith_any (s n : Nat) (w : World) (hn : n ≤ 63) (hs : s < 18446744073709551616) :
    Calls Tryd.prog 12 #[.int .u64 s, .int .i64 n] w fun e w' => e = .returned (.int .u64 ((withBit s n : Nat) : Int)) ∧ w = w' := by
  have HV := Lib.hid (or_form s n hn hs)
  clear hs
  go_enter Tryd.func12, Tryd.ntmps12
  go_wp2_with fail
  refine (one_any n _ hn).mono ?_
  rintro e w' ⟨rfl, rfl⟩
  go_wp2_with fail
  go_ret
  exact ⟨ret_u64 HV.out, rfl⟩
theorem bwo_out (s : Nat) (n : Int) (w : World) (hn : n < 0 ∨ 63 < n) (hs : s < 18446744073709551616) :
    Calls Tryd.prog 14 #[.int .u64 s, .int .i64 n] w fun e w' => e = .returned (.int .u64 s) ∧ w = w' := by
  have h := andNot_zero64 s hs
  go_enter Tryd.func14, Tryd.ntmps14
  go_wp2_with fail
  refine (one_out n _ hn).mono ?_
  rintro e w' ⟨rfl, rfl⟩
  go_wp2_with fail
  go_ret
  exact ⟨rfl, rfl⟩
theorem bwo_any (s n : Nat) (w : World) (hn : n ≤ 63) (hs : s < 18446744073709551616) :
    Calls Tryd.prog 14 #[.int .u64 s, .int .i64 n] w fun e w' => e = .returned (.int .u64 ((woBit s n : Nat) : Int)) ∧ w = w' := by
  have HV := Lib.hid (wo_form s n hn hs)
  clear hs
  go_enter Tryd.func14, Tryd.ntmps14
  go_wp2_with fail
  refine (one_any n _ hn).mono ?_
  rintro e w' ⟨rfl, rfl⟩
  go_wp2_with fail
  go_ret
  exact ⟨ret_u64 HV.out, rfl⟩
/-- the document's Without -/
theorem wo_out (s : Nat) (n : Int) (w : World) (hn : n < 0 ∨ 63 < n) :
    Calls Tryd.prog 15 #[.int .u64 s, .int .i64 n] w fun e w' => e = .returned (.int .u64 s) ∧ w = w' := by
  go_enter Tryd.func15, Tryd.ntmps15
  go_wp2_with fail
  refine (has_out s n _ hn).mono ?_
  rintro e w' ⟨rfl, rfl⟩
  go_wp2_with fail
  go_ret
  exact ⟨rfl, rfl⟩
theorem wo_any (s n : Nat) (w : World) (hn : n ≤ 63) (hs : s < 18446744073709551616) :
    Calls Tryd.prog 15 #[.int .u64 s, .int .i64 n] w fun e w' => e = .returned (.int .u64 ((woBit s n : Nat) : Int)) ∧ w = w' := by
  go_enter Tryd.func15, Tryd.ntmps15
  go_wp2_with fail
  refine (has_any s n _ hn hs).mono ?_
  rintro e w' ⟨rfl, rfl⟩
  have HS := Lib.hid hs
  clear hs
  cases hb : hasBit s n
  · have HB : Hid (woBit s n = s) := Lib.hid (by rw [woBit, hb]; rfl)
    clear hb
    go_wp2_with fail
    go_ret
    refine ⟨?_, rfl⟩
    rw [HB.out]; rfl
  · have HB : Hid (IntKind.u64.wrap ((s : Int) - (pw n : Int)) = ((woBit s n : Nat) : Int)) := Lib.hid (wo_sub s n HS.out hb)
    clear hb
    go_wp2_with fail
    refine (power_any n _ hn).mono ?_
    rintro e w' ⟨rfl, rfl⟩
    go_wp2_with fail
    go_ret
    refine ⟨?_, rfl⟩
    rw [← HB.out]; rfl
/-- the first numbers -/
theorem bfirst_any (n : Int) (T : Nat) (w : World) (hT : (T : Int) = max 0 (min n 64)) :
    Calls Tryd.prog 26 #[.int .i64 n] w fun e w' => e = .returned (.int .u64 ((pw T - 1 : Nat) : Int)) ∧ w = w' := by
  rcases (show n ≤ 0 ∨ (0 < n ∧ n < 64) ∨ 64 ≤ n by omega) with h | ⟨h, h2⟩ | h
  · obtain rfl : T = 0 := by omega
    clear hT
    go_enter Tryd.func26, Tryd.ntmps26
    go_wp2_with fail
    go_ret
    exact ⟨by rw [pw_zero]; rfl, rfl⟩
  · obtain rfl : n = (T : Int) := by omega
    have h3 : (0 : Int) ≤ T := by omega
    have HV := Lib.hid (first_form T (by omega))
    have HW := Lib.hid (one_form T (by omega))
    clear hT
    go_enter Tryd.func26, Tryd.ntmps26
    go_wp2_with fail
    go_ret
    refine ⟨?_, rfl⟩
    rw [← HV.out, ← HW.out]; rfl
  · obtain rfl : T = 64 := by omega
    clear hT
    have h3 : ¬ n ≤ 0 := by omega
    go_enter Tryd.func26, Tryd.ntmps26
    go_wp2_with fail
    go_ret
    exact ⟨by rw [show pw 64 = 18446744073709551616 by rw [pw_eq]]; rfl, rfl⟩
end Go.Proofs.YtkhkaofpmcnllaaDoor
