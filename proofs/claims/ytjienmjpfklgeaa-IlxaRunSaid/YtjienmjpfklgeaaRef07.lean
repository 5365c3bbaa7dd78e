/-
 Walks of the document's answer for chapter 7: power, Has, With, First.
-/
import Derived.Test.YtjienmjpfklgeaaProg
import Derived.Test.YtjienmjpfklgeaaMA
namespace Go.Proofs.Ytjienmjpfklgeaa
open Go.RowKit

attribute [local irreducible] pw hasBit withBit
theorem power_any (n : Nat) (w : World) (hn : n ≤ 63) :
 Calls Try.prog 50 #[.int .i64 n] w fun e w' => e = .returned (.int .u64 (pw n : Int)) ∧ w = w' := by
 go_enter Try.func50, Try.ntmps50
 go_wp2
 go_loop [3, 4] (fun p i => ∃ k x : Nat, k ≤ n ∧ i = .int .i64 k ∧ x = pw k ∧ p = .int .u64 x) (fun _ i => n - (intOf i).toNat)
 case atStart => exact ⟨0, 1, by omega, rfl, pw_zero.symm, rfl⟩
 case round =>
  obtain ⟨k, x, hk, rfl, hx, rfl⟩ := hrel
  by_cases hlt : k < n
  ·have hw : IntKind.u64.wrap ((x : Int) * 2) = (pw (k + 1) : Int) := by rw [hx]; exact pw_step k (by omega)
   obtain ⟨y, hy⟩ : ∃ y, y = pw (k + 1) := ⟨_, rfl⟩
   rw [← hy] at hw
   have HY := Lib.hid hy
   clear hx hy
   go_wp2
   go_round
   case rel => exact ⟨k + 1, y, by omega, by go_num, HY.out, rfl⟩
   case measure => simp [intOf]; omega
  ·obtain rfl : k = n := by omega
   have HX := Lib.hid hx
   clear hx
   go_wp2
   go_ret
   refine ⟨?_, rfl⟩
   rw [← HX.out]; rfl
theorem has_out (s n : Int) (w : World) (hn : n < 0 ∨ 63 < n) :
 Calls Try.prog 22 #[.int .u64 s, .int .i64 n] w fun e w' => e = .returned (.bool false) ∧ w = w' := by
 rcases hn with h | h
 ·go_enter Try.func22, Try.ntmps22
  go_wp2_with fail
  go_ret
  exact ⟨rfl, rfl⟩
 ·have h0 : 0 ≤ n := by omega
  go_enter Try.func22, Try.ntmps22
  go_wp2_with fail
  go_ret
  exact ⟨rfl, rfl⟩
theorem has_any (s n : Nat) (w : World) (hn : n ≤ 63) (hs : s < 18446744073709551616) :
 Calls Try.prog 22 #[.int .u64 s, .int .i64 n] w fun e w' => e = .returned (.bool (hasBit s n)) ∧ w = w' := by
 have hp := pw_pos n
 have HV := Lib.hid (has_val s n hs)
 clear hs
 go_enter Try.func22, Try.ntmps22
 go_wp2_with fail
 refine (power_any n _ hn).mono ?_
 rintro e w' ⟨rfl, rfl⟩
 go_wp2_with fail
 go_ret
 exact ⟨ret_bool HV.out, rfl⟩
theorem with_out (s n : Int) (w : World) (hn : n < 0 ∨ 63 < n) :
 Calls Try.prog 81 #[.int .u64 s, .int .i64 n] w fun e w' => e = .returned (.int .u64 s) ∧ w = w' := by
 rcases hn with h | h
 ·go_enter Try.func81, Try.ntmps81
  go_wp2_with fail
  go_ret
  exact ⟨rfl, rfl⟩
 ·have h0 : 0 ≤ n := by omega
  go_enter Try.func81, Try.ntmps81
  go_wp2_with fail
  go_ret
  exact ⟨rfl, rfl⟩
theorem with_any (s n : Nat) (w : World) (hn : n ≤ 63) (hs : s < 18446744073709551616) :
 Calls Try.prog 81 #[.int .u64 s, .int .i64 n] w fun e w' => e = .returned (.int .u64 ((withBit s n : Nat) : Int)) ∧ w = w' := by
 go_enter Try.func81, Try.ntmps81
 go_wp2_with fail
 refine (has_any s n _ hn hs).mono ?_
 rintro e w' ⟨rfl, rfl⟩
 have HS := Lib.hid hs
 clear hs
 cases hb : hasBit s n
 ·have HW := Lib.hid (with_sum s n hn HS.out hb)
  have HB : Hid (withBit s n = s + pw n) := Lib.hid (by rw [withBit, hb]; rfl)
  clear hb
  go_wp2_with fail
  refine (power_any n _ hn).mono ?_
  rintro e w' ⟨rfl, rfl⟩
  go_wp2_with fail
  go_ret
  refine ⟨?_, rfl⟩
  rw [HB.out, ← HW.out]; rfl
 ·have HB : Hid (withBit s n = s) := Lib.hid (by rw [withBit, hb]; rfl)
  clear hb
  go_wp2_with fail
  go_ret
  refine ⟨?_, rfl⟩
  rw [HB.out]; rfl

/-- the first numbers, as a set: n of them, 64 at most -/
theorem first_any (n : Int) (T : Nat) (w : World) (hT : (T : Int) = max 0 (min n 64)) :
 Calls Try.prog 43 #[.int .i64 n] w fun e w' => e = .returned (.int .u64 ((pw T - 1 : Nat) : Int)) ∧ w = w' := by
 have HT := Lib.hid hT
 have hT64 : T ≤ 64 := by omega
 clear hT
 go_enter Try.func43, Try.ntmps43
 go_wp2
 go_loop [3, 4] (fun s i => ∃ k x : Nat, k ≤ T ∧ i = .int .i64 k ∧ x = pw k - 1 ∧ s = .int .u64 x) (fun _ i => T - (intOf i).toNat)
 case atStart => exact ⟨0, 0, by omega, rfl, by rw [pw_zero], rfl⟩
 case round =>
  obtain ⟨k, x, hk, rfl, hx, rfl⟩ := hrel
  have HX := Lib.hid hx
  by_cases hlt : k < T
  ·have h1 : (k : Int) < n := by have := HT.out; omega
   have h2 : (k : Int) < 64 := by omega
   have hxl : x < 18446744073709551616 := by
    rw [hx]; have := pw_le (n := k) (by omega); omega
   obtain ⟨y, hy⟩ : ∃ y, y = withBit x k := ⟨_, rfl⟩
   have HY : Hid (y = pw (k + 1) - 1) := Lib.hid (by rw [hy, hx, withBit_first])
   have HV := Lib.hid hy
   clear hx hy
   go_wp2_with fail
   refine (with_any x k _ (by omega) hxl).mono ?_
   rintro e w' ⟨rfl, rfl⟩
   rw [← HV.out]
   clear h1 h2
   go_wp2_with fail
   go_round
   case rel => exact ⟨k + 1, y, by omega, by go_num, HY.out, rfl⟩
   case measure => simp [intOf]; omega
  ·obtain rfl : k = T := by omega
   clear hx
   by_cases h1 : (k : Int) < n
   ·have h2 : ¬ (k : Int) < 64 := by have := HT.out; omega
    go_wp2_with fail
    go_ret
    refine ⟨?_, rfl⟩
    rw [← HX.out]; rfl
   ·go_wp2_with fail
    go_ret
    refine ⟨?_, rfl⟩
    rw [← HX.out]; rfl
end Go.Proofs.Ytjienmjpfklgeaa
