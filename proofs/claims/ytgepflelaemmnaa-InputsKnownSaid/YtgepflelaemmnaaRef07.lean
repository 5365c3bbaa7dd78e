/-
  Walks of the document's answer for chapter 7: power, Has, With, First.
-/
import Derived.Test.YtgepflelaemmnaaProg
import Derived.Test.YtgepflelaemmnaaBase
namespace Go.Proofs.Ytgepflelaemmnaa
open Go.RowKit

/-- a power of two, behind a name -/
def pw (n : Nat) : Nat := 2 ^ n
theorem pw_eq (n : Nat) : pw n = 2 ^ n := rfl
theorem pw_pos (n : Nat) : 0 < pw n := Nat.two_pow_pos n
theorem pw_zero : pw 0 = 1 := rfl
theorem pw_succ (n : Nat) : pw (n + 1) = pw n * 2 := Nat.pow_succ ..
theorem pw_le {n : Nat} (h : n ≤ 63) : pw n ≤ 9223372036854775808 := by
  have := Nat.pow_le_pow_right (n := 2) (by omega) h
  simpa [pw] using this
theorem pw_step (k : Nat) (h : k < 63) : IntKind.u64.wrap ((pw k : Int) * 2) = (pw (k + 1) : Int) := by
  have h1 := pw_le (n := k + 1) (by omega)
  have h2 := pw_succ k
  rw [IntKind.wrap_u64]
  omega
/-- is number i in the set s? -/
def hasBit (s i : Nat) : Bool := decide (s / pw i % 2 = 1)
/-- the set with number i in it -/
def withBit (s i : Nat) : Nat := if hasBit s i then s else s + pw i
theorem has_val (s n : Nat) (hs : s < 18446744073709551616) : ((IntKind.u64.wrap ((s : Int) / (pw n : Int))).tmod 2 == 1) = hasBit s n := by
  have h1 : s / pw n < 18446744073709551616 := Nat.lt_of_le_of_lt (Nat.div_le_self _ _) hs
  unfold hasBit
  rw [show (s : Int) / (pw n : Int) = ((s / pw n : Nat) : Int) from (Int.natCast_ediv s (pw n)).symm, IntKind.wrap_u64]
  generalize s / pw n = y at *
  have e : ((y : Int) % 18446744073709551616).tmod 2 = ((y % 2 : Nat) : Int) := by
    rw [Int.tmod_eq_emod_of_nonneg (by omega)]; omega
  rw [e, Bool.eq_iff_iff]; simp; omega
theorem with_fits (s n : Nat) (hn : n ≤ 63) (hs : s < 18446744073709551616) (h : hasBit s n = false) : s + pw n < 18446744073709551616 := by
  have hb : s / pw n % 2 = 0 := by
    have : ¬ s / pw n % 2 = 1 := of_decide_eq_false h
    omega
  have key : s + pw n < 2 ^ 64 := by
    refine Nat.lt_of_not_le fun hge => ?_
    have e64 : 2 ^ 64 = pw n * 2 ^ (64 - n) := by rw [pw, ← Nat.pow_add]; congr 1; omega
    have h1 : 2 ^ (64 - n) - 1 ≤ s / pw n := by
      rw [Nat.le_div_iff_mul_le (pw_pos n), Nat.sub_mul, Nat.one_mul, Nat.mul_comm, ← e64]; omega
    have h2 : s / pw n < 2 ^ (64 - n) := by
      rw [Nat.div_lt_iff_lt_mul (pw_pos n), Nat.mul_comm, ← e64]; omega
    have h3 : 2 ^ (64 - n) % 2 = 0 := by
      rw [show 64 - n = (63 - n) + 1 by omega, Nat.pow_succ]; omega
    have h4 := Nat.two_pow_pos (64 - n)
    omega
  exact key
theorem with_sum (s n : Nat) (hn : n ≤ 63) (hs : s < 18446744073709551616) (h : hasBit s n = false) : IntKind.u64.wrap ((s : Int) + (pw n : Int)) = ((s + pw n : Nat) : Int) := by
  have := with_fits s n hn hs h
  rw [IntKind.wrap_u64]; omega
theorem withBit_lt (s n : Nat) (hn : n ≤ 63) (hs : s < 18446744073709551616) : withBit s n < 18446744073709551616 := by
  unfold withBit
  cases h : hasBit s n
  · exact with_fits s n hn hs h
  · exact hs
/-- the first n numbers -/
theorem withBit_first (k : Nat) : withBit (pw k - 1) k = pw (k + 1) - 1 := by
  have h0 := pw_pos k
  have : hasBit (pw k - 1) k = false := by
    unfold hasBit; rw [Nat.div_eq_of_lt (by omega)]; rfl
  rw [withBit, this, pw_succ]; simp only [Bool.false_eq_true, if_false]; omega

attribute [local irreducible] pw hasBit withBit
theorem power_any (n : Nat) (w : World) (hn : n ≤ 63) :
    Calls Try.prog 28 #[.int .i64 n] w fun e w' => e = .returned (.int .u64 (pw n : Int)) ∧ w = w' := by
  go_enter Try.func28, Try.ntmps28
  go_wp2
  go_loop [3, 4] (fun p i => ∃ k x : Nat, k ≤ n ∧ i = .int .i64 k ∧ x = pw k ∧ p = .int .u64 x) (fun _ i => n - (intOf i).toNat)
  case atStart => exact ⟨0, 1, by omega, rfl, pw_zero.symm, rfl⟩
  case round =>
    obtain ⟨k, x, hk, rfl, hx, rfl⟩ := hrel
    by_cases hlt : k < n
    · have hw : IntKind.u64.wrap ((x : Int) * 2) = (pw (k + 1) : Int) := by rw [hx]; exact pw_step k (by omega)
      obtain ⟨y, hy⟩ : ∃ y, y = pw (k + 1) := ⟨_, rfl⟩
      rw [← hy] at hw
      have HY := Lib.hid hy
      clear hx hy
      go_wp2
      go_round
      case rel => exact ⟨k + 1, y, by omega, by go_num, HY.out, rfl⟩
      case measure => simp [intOf]; omega
    · obtain rfl : k = n := by omega
      have HX := Lib.hid hx
      clear hx
      go_wp2
      go_ret
      refine ⟨?_, rfl⟩
      rw [← HX.out]; rfl
theorem has_out (s n : Int) (w : World) (hn : n < 0 ∨ 63 < n) :
    Calls Try.prog 27 #[.int .u64 s, .int .i64 n] w fun e w' => e = .returned (.bool false) ∧ w = w' := by
  rcases hn with h | h
  · go_enter Try.func27, Try.ntmps27
    go_wp2_with fail
    go_ret
    exact ⟨rfl, rfl⟩
  · have h0 : 0 ≤ n := by omega
    go_enter Try.func27, Try.ntmps27
    go_wp2_with fail
    go_ret
    exact ⟨rfl, rfl⟩
theorem has_any (s n : Nat) (w : World) (hn : n ≤ 63) (hs : s < 18446744073709551616) :
    Calls Try.prog 27 #[.int .u64 s, .int .i64 n] w fun e w' => e = .returned (.bool (hasBit s n)) ∧ w = w' := by
  have hp := pw_pos n
  have HV := Lib.hid (has_val s n hs)
  clear hs
  go_enter Try.func27, Try.ntmps27
  go_wp2_with fail
  refine (power_any n _ hn).mono ?_
  rintro e w' ⟨rfl, rfl⟩
  go_wp2_with fail
  go_ret
  exact ⟨ret_bool HV.out, rfl⟩
theorem with_out (s n : Int) (w : World) (hn : n < 0 ∨ 63 < n) :
    Calls Try.prog 26 #[.int .u64 s, .int .i64 n] w fun e w' => e = .returned (.int .u64 s) ∧ w = w' := by
  rcases hn with h | h
  · go_enter Try.func26, Try.ntmps26
    go_wp2_with fail
    go_ret
    exact ⟨rfl, rfl⟩
  · have h0 : 0 ≤ n := by omega
    go_enter Try.func26, Try.ntmps26
    go_wp2_with fail
    go_ret
    exact ⟨rfl, rfl⟩
theorem with_any (s n : Nat) (w : World) (hn : n ≤ 63) (hs : s < 18446744073709551616) :
    Calls Try.prog 26 #[.int .u64 s, .int .i64 n] w fun e w' => e = .returned (.int .u64 ((withBit s n : Nat) : Int)) ∧ w = w' := by
  go_enter Try.func26, Try.ntmps26
  go_wp2_with fail
  refine (has_any s n _ hn hs).mono ?_
  rintro e w' ⟨rfl, rfl⟩
  have HS := Lib.hid hs
  clear hs
  cases hb : hasBit s n
  · have HW := Lib.hid (with_sum s n hn HS.out hb)
    have HB : Hid (withBit s n = s + pw n) := Lib.hid (by rw [withBit, hb]; rfl)
    clear hb
    go_wp2_with fail
    refine (power_any n _ hn).mono ?_
    rintro e w' ⟨rfl, rfl⟩
    go_wp2_with fail
    go_ret
    refine ⟨?_, rfl⟩
    rw [HB.out, ← HW.out]; rfl
  · have HB : Hid (withBit s n = s) := Lib.hid (by rw [withBit, hb]; rfl)
    clear hb
    go_wp2_with fail
    go_ret
    refine ⟨?_, rfl⟩
    rw [HB.out]; rfl

/-- the first numbers, as a set: n of them, 64 at most -/
theorem first_any (n : Int) (T : Nat) (w : World) (hT : (T : Int) = max 0 (min n 64)) :
    Calls Try.prog 22 #[.int .i64 n] w fun e w' => e = .returned (.int .u64 ((pw T - 1 : Nat) : Int)) ∧ w = w' := by
  have HT := Lib.hid hT
  have hT64 : T ≤ 64 := by omega
  clear hT
  go_enter Try.func22, Try.ntmps22
  go_wp2
  go_loop [3, 4] (fun s i => ∃ k x : Nat, k ≤ T ∧ i = .int .i64 k ∧ x = pw k - 1 ∧ s = .int .u64 x) (fun _ i => T - (intOf i).toNat)
  case atStart => exact ⟨0, 0, by omega, rfl, by rw [pw_zero], rfl⟩
  case round =>
    obtain ⟨k, x, hk, rfl, hx, rfl⟩ := hrel
    have HX := Lib.hid hx
    by_cases hlt : k < T
    · have h1 : (k : Int) < n := by have := HT.out; omega
      have h2 : (k : Int) < 64 := by omega
      have hxl : x < 18446744073709551616 := by
        rw [hx]; have := pw_le (n := k) (by omega); omega
      obtain ⟨y, hy⟩ : ∃ y, y = withBit x k := ⟨_, rfl⟩
      have HY : Hid (y = pw (k + 1) - 1) := Lib.hid (by rw [hy, hx, withBit_first])
      have HV := Lib.hid hy
      clear hx hy
      go_wp2_with fail
      refine (with_any x k _ (by omega) hxl).mono ?_
      rintro e w' ⟨rfl, rfl⟩
      rw [← HV.out]
      clear h1 h2
      go_wp2_with fail
      go_round
      case rel => exact ⟨k + 1, y, by omega, by go_num, HY.out, rfl⟩
      case measure => simp [intOf]; omega
    · obtain rfl : k = T := by omega
      clear hx
      by_cases h1 : (k : Int) < n
      · have h2 : ¬ (k : Int) < 64 := by have := HT.out; omega
        go_wp2_with fail
        go_ret
        refine ⟨?_, rfl⟩
        rw [← HX.out]; rfl
      · go_wp2_with fail
        go_ret
        refine ⟨?_, rfl⟩
        rw [← HX.out]; rfl
end Go.Proofs.Ytgepflelaemmnaa
