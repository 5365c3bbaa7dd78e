/-
  Walks of package crc, the rest: what a change does, and which change makes a check unlike.
-/
import Derived.Test.YtegkogbkoealaaaCrcWalks
namespace Go.Proofs.Ytegkogbkoealaaa
open Go.RowKit
attribute [local irreducible] Crc.it Crc.ah8 Crc.bk8 Crc.run Crc.sum Crc.step Crc.ah Crc.bk

theorem crc_xor8 (a b : Nat) (ha : a < 256) (hb : b < 256) : bits .xor .u8 (a : Int) (b : Int) = ((a ^^^ b : Nat) : Int) := u8_xor_nat a b ha hb
theorem xor_lt8 {a b : Nat} (ha : a < 256) (hb : b < 256) : a ^^^ b < 256 := Nat.xor_lt_two_pow (n := 8) ha hb

/-- a place that may not be -/
theorem change_no (s a b : Int) (m : Int) (w : World) (hm : m < 0 ∨ 65536 < m) :
    Calls Try.prog 14 #[.int .u32 s, .int .u8 a, .int .u8 b, .int .i64 m] w fun e w' => e = .returned (.tuple #[.int .u32 0, .bool false]) ∧ w = w' := by
  go_enter Try.func14, Try.ntmps14
  rcases hm with hm | hm
  · go_wp2
    go_ret2
    exact ⟨rfl, rfl⟩
  · by_cases h : m < 0
    · omega
    · go_wp2
      go_ret2
      exact ⟨rfl, rfl⟩

theorem change_any (s a b m : Nat) (w : World) (hs : s < 4294967296) (ha : a < 256) (hb : b < 256) (hm : m ≤ 65536) :
    Calls Try.prog 14 #[.int .u32 s, .int .u8 a, .int .u8 b, .int .i64 m] w fun e w' => e = .returned (.tuple #[.int .u32 (s ^^^ Crc.it Crc.ah8 (m + 1) (a ^^^ b) : Nat), .bool true]) ∧ w = w' := by
  have hx := xor_lt8 ha hb
  have H1 : Hid (bits .xor .u8 (a : Int) (b : Int) = ((a ^^^ b : Nat) : Int)) := Lib.hid (crc_xor8 a b ha hb)
  generalize a ^^^ b = x at *
  go_enter Try.func14, Try.ntmps14
  go_wp2
  rw [H1.out]
  go_loop [10, 23] (fun r i => ∃ k : Nat, k ≤ m + 1 ∧ i = .int .i64 k ∧ r = .int .u32 (Crc.it Crc.ah8 k x)) (fun _ i => (m + 1) - (intOf i).toNat)
  case atStart => exact ⟨0, by omega, rfl, int_eq (by rw [Crc.it_zero']; omega)⟩
  case round =>
    obtain ⟨k, hk, rfl, rfl⟩ := hrel
    have hr : Crc.it Crc.ah8 k x < 4294967296 := Crc.it_ah8_lt (by omega)
    by_cases hlt : k < m + 1
    · go_wp2_with (go_at_call 18; refine (eight_ah _ _ _ rfl hr).mono ?_; rintro e w' ⟨rfl, rfl⟩)
      go_round
      case rel => exact ⟨k + 1, by omega, by go_num, by rw [Crc.it_succ]⟩
      case measure => simp [intOf]; omega
    · obtain rfl : k = m + 1 := by omega
      have H2 : Hid (bits .xor .u32 (s : Int) (Crc.it Crc.ah8 (m + 1) x : Nat) = ((s ^^^ Crc.it Crc.ah8 (m + 1) x : Nat) : Int)) := Lib.hid (crc_xor s _ hs hr)
      go_wp2
      rw [H2.out]
      go_ret2
      exact ⟨rfl, rfl⟩

/-- what Find looks for: the fewest bytes behind -/
def Crc.found (n : Nat) : Nat → Nat → Option (Nat × Nat)
  | _, 0 => none
  | k, j + 1 => if 0 < Crc.bk8 n ∧ Crc.bk8 n ≤ 255 then some (k, Crc.bk8 n) else Crc.found (Crc.bk8 n) (k + 1) j

theorem Crc.found_zero (n k : Nat) : Crc.found n k 0 = none := rfl
theorem Crc.found_step (n k j : Nat) : Crc.found n k (j + 1) = if 0 < Crc.bk8 n ∧ Crc.bk8 n ≤ 255 then some (k, Crc.bk8 n) else Crc.found (Crc.bk8 n) (k + 1) j := rfl

def Crc.asTuple : Option (Nat × Nat) → Value
  | some (k, b) => .tuple #[.int .i64 k, .int .u8 b, .bool true]
  | none => .tuple #[.int .i64 0, .int .u8 0, .bool false]

set_option maxHeartbeats 400000 in
theorem find_any (u : Nat) (n : Int) (w : World) (hu : u < 4294967296) (hn : -9223372036854775808 ≤ n ∧ n ≤ 9223372036854775807) :
    Calls Try.prog 16 #[.int .u32 u, .int .i64 n] w fun e w' => e = .returned (Crc.asTuple (Crc.found u 0 (max 0 (min n 65536)).toNat)) ∧ w = w' := by
  suffices main : ∀ T : Nat, (n ≤ 0 ∧ T = 0 ∨ n = T ∧ 0 < T ∧ T ≤ 65536 ∨ 65536 < n ∧ T = 65536) →
      Calls Try.prog 16 #[.int .u32 u, .int .i64 n] w fun e w' => e = .returned (Crc.asTuple (Crc.found u 0 T)) ∧ w = w' from
    main _ (by omega)
  intro T hT
  have hT1 : T ≤ 65536 := by omega
  rcases hT with ⟨h, rfl⟩ | ⟨rfl, h1, h2⟩ | ⟨h, h0⟩
  · go_enter Try.func16, Try.ntmps16
    go_wp2
    refine wp_loop_rounds 1 ?_
    rw [rounds_succ]
    go_wp2
    go_ret3
    exact ⟨rfl, rfl⟩
  · go_enter Try.func16, Try.ntmps16
    go_wp2
    go_loop [7, 13] (fun r i => ∃ k x : Nat, k ≤ T ∧ i = .int .i64 k ∧ r = .int .u32 x ∧ x < 4294967296 ∧ Crc.found u 0 T = Crc.found x k (T - k)) (fun _ i => T - (intOf i).toNat)
    case atStart => exact ⟨0, u, by omega, rfl, rfl, hu, by simp⟩
    case round =>
      obtain ⟨k, x, hk, rfl, rfl, hx, hF⟩ := hrel
      by_cases hlt : k < T
      · have hb : Crc.bk8 x < 4294967296 := Crc.bk8_lt hx
        rw [show T - k = (T - (k + 1)) + 1 by omega, Crc.found_step] at hF
        have HF : Hid _ := Lib.hid hF
        clear hF
        go_wp2_with (go_at_call 18; refine (eight_bk _ _ _ rfl hx).mono ?_; rintro e w' ⟨rfl, rfl⟩)
        · have h1 : 0 < Crc.bk8 x := by assumption
          have h2 : (Crc.bk8 x : Int) ≤ 255 := by assumption
          go_ret3
          refine ⟨?_, rfl⟩
          rw [HF.out, if_pos ⟨h1, by omega⟩]
          rfl
        · have h2 : 255 < (Crc.bk8 x : Int) := by assumption
          go_round
          case rel => exact ⟨k + 1, _, by omega, by go_num, rfl, hb, by rw [HF.out, if_neg (by omega)]⟩
          case measure => simp [intOf]; omega
        · have h1 : ¬ 0 < Crc.bk8 x := by assumption
          go_round
          case rel => exact ⟨k + 1, _, by omega, by go_num, rfl, hb, by rw [HF.out, if_neg (by omega)]⟩
          case measure => simp [intOf]; omega
      · rw [show T - k = 0 by omega] at hF
        have HF : Hid (Crc.found u 0 T = none) := Lib.hid hF
        clear hF
        go_wp2
        go_ret3
        exact ⟨by rw [HF.out]; rfl, rfl⟩
  · have E : Hid ((65536 : Int) = (T : Int)) := Lib.hid (by omega)
    clear h0
    go_enter Try.func16, Try.ntmps16
    go_wp2
    rw [E.out]
    go_loop [7, 13] (fun r i => ∃ k x : Nat, k ≤ T ∧ i = .int .i64 k ∧ r = .int .u32 x ∧ x < 4294967296 ∧ Crc.found u 0 T = Crc.found x k (T - k)) (fun _ i => T - (intOf i).toNat)
    case atStart => exact ⟨0, u, by omega, rfl, rfl, hu, by simp⟩
    case round =>
      obtain ⟨k, x, hk, rfl, rfl, hx, hF⟩ := hrel
      by_cases hlt : k < T
      · have hb : Crc.bk8 x < 4294967296 := Crc.bk8_lt hx
        rw [show T - k = (T - (k + 1)) + 1 by omega, Crc.found_step] at hF
        have HF : Hid _ := Lib.hid hF
        clear hF
        go_wp2_with (go_at_call 18; refine (eight_bk _ _ _ rfl hx).mono ?_; rintro e w' ⟨rfl, rfl⟩)
        · have h1 : 0 < Crc.bk8 x := by assumption
          have h2 : (Crc.bk8 x : Int) ≤ 255 := by assumption
          go_ret3
          refine ⟨?_, rfl⟩
          rw [HF.out, if_pos ⟨h1, by omega⟩]
          rfl
        · have h2 : 255 < (Crc.bk8 x : Int) := by assumption
          go_round
          case rel => exact ⟨k + 1, _, by omega, by go_num, rfl, hb, by rw [HF.out, if_neg (by omega)]⟩
          case measure => simp [intOf]; omega
        · have h1 : ¬ 0 < Crc.bk8 x := by assumption
          go_round
          case rel => exact ⟨k + 1, _, by omega, by go_num, rfl, hb, by rw [HF.out, if_neg (by omega)]⟩
          case measure => simp [intOf]; omega
      · rw [show T - k = 0 by omega] at hF
        have HF : Hid (Crc.found u 0 T = none) := Lib.hid hF
        clear hF
        go_wp2
        go_ret3
        exact ⟨by rw [HF.out]; rfl, rfl⟩
end Go.Proofs.Ytegkogbkoealaaa
